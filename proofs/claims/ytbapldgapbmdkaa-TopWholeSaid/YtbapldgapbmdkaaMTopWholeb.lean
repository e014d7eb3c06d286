/- The law TopWhole. Own text. -/
import Derived.Test.YtbapldgapbmdkaaRows
import Derived.WalkKit
import Derived.ProofKit
import Derived.OpenShut
import Derived.ShutString
import Derived.ChangeOld
import Derived.Below
import Derived.SizedLaws
import Derived.Carry
import Derived.Test.YtbapldgapbmdkaaMBa
import Derived.Test.YtbapldgapbmdkaaMBb
import Derived.Test.YtbapldgapbmdkaaMBc
import Derived.Test.YtbapldgapbmdkaaMFa
import Derived.Test.YtbapldgapbmdkaaMFb
import Derived.Test.YtbapldgapbmdkaaMTopWholea
set_option linter.unusedSimpArgs false
set_option linter.unusedVariables false
namespace Go.Proofs.Ytbapldgapbmdkaa.Sp
open Go.Proofs.Ytbapldgapbmdkaa.V.B Go.RowKit Go.Proofs.Ytbapldgapbmdkaa.B Go.Proofs.Ytbapldgapbmdkaa.V.B.Ar Go.Proofs.Ytbapldgapbmdkaa.V.B.Tw
set_option linter.unusedVariables false
set_option linter.unusedSimpArgs false
theorem rdI_get (P : List Int) (i : Nat) : rdI P (i : Int) = P.getD i 0 := by unfold rdI; rw [Int.toNat_natCast]
/-- Is a place one of a word? -/
def inW (N : Nat) (p : Int) : Prop := 0 ≤ p ∧ p < (N : Int)
instance (N : Nat) (p : Int) : Decidable (inW N p) := inferInstanceAs (Decidable (_ ∧ _))
def Dst (P : List Int) (m : Nat) : Prop := ∀ i j, i < j → j < m → P.getD i 0 ≠ P.getD j 0
theorem out_ev {l K R : Nat} (h : Cd l K R) (P : List Int) (hP : P.length ≤ 100000) : ∃ b : Bool, Ev (fun k => slices_ContainsFunc93_c94.f k P (some (cdS l K R))) b ∧ (b = false ↔ ∀ i, i < P.length → inW (2 ^ (K + R)) (P.getD i 0)) := by
  have hp : ∀ x : Int, Ev (fun k => code_Code_mayFill_1.f k x (some (some (cdS l K R)))) (decide (¬ inW (2 ^ (K + R)) x)) := fun x => by
    unfold code_Code_mayFill_1.f
    by_cases c : x < 0
    · rw [decide_eq_true (show ¬ inW (2 ^ (K + R)) x from fun h => by unfold inW at h; omega)]
      exact Ev.pos c (Ev.ret _)
    · refine Ev.neg c (Ev.bnd (Long_ev h) (Ev.ret' ?_))
      refine decide_eq_decide.2 ⟨fun h1 h2 => by unfold inW at h2; omega, fun h1 => ?_⟩
      apply Classical.byContradiction
      intro h2
      exact h1 ⟨by omega, by omega⟩
  have key : ∀ d i, i + d = P.length → ∃ r : Int, Ev (fun k => slices_IndexFunc119_c94.l2 k P (some (cdS l K R)) (P.length : Int) (i : Int)) r ∧ (r < 0 ↔ ∀ j, i ≤ j → j < P.length → inW (2 ^ (K + R)) (P.getD j 0)) := by
    intro d
    induction d with
    | zero =>
      intro i hid
      refine ⟨-1, Ev.step (fun k => by rw [slices_IndexFunc119_c94.l2]) (Ev.neg (by omega) (Ev.ret _)), ?_⟩
      exact ⟨fun _ j h1 h2 => by omega, fun _ => by decide⟩
    | succ d ih =>
      intro i hid
      have hil : i < P.length := by omega
      have f0 : (i : Int) < (P.length : Int) := by omega
      obtain ⟨r, h1, h2⟩ := ih (i + 1) (by omega)
      have go : ∀ {r : Int}, Ev (fun k => (code_Code_mayFill_1.f k (P.getD i 0) (some (some (cdS l K R)))).bind fun r => if r = true then some (i : Int) else slices_IndexFunc119_c94.l2 k P (some (cdS l K R)) (P.length : Int) ((i + 1 : Nat) : Int)) r → Ev (fun k => slices_IndexFunc119_c94.l2 k P (some (cdS l K R)) (P.length : Int) (i : Int)) r := fun h => by
        refine Ev.step (fun k => by rw [slices_IndexFunc119_c94.l2]) (Ev.pos f0 (Ev.ixS hil ?_))
        rw [rdI_get, w64_succ hil (by omega)]
        exact h
      by_cases c : inW (2 ^ (K + R)) (P.getD i 0)
      · refine ⟨r, go (Ev.bnd (hp _) (Ev.neg (by simpa using c) h1)), h2.trans ⟨fun g j h3 h4 => ?_, fun g j h3 h4 => g j (by omega) h4⟩⟩
        by_cases e : j = i
        · rw [e]; exact c
        · exact g j (by omega) h4
      · refine ⟨(i : Int), go (Ev.bnd (hp _) (Ev.pos (by simpa using c) (Ev.ret _))), ⟨fun g => by omega, fun g => absurd (g i (Nat.le_refl _) hil) c⟩⟩
  obtain ⟨r, h1, h2⟩ := key P.length 0 (by omega)
  refine ⟨decide (r ≥ 0), ?_, ?_⟩
  · unfold slices_ContainsFunc93_c94.f slices_IndexFunc119_c94.f
    exact Ev.bnd h1 (Ev.ret _)
  · rw [decide_eq_false_iff_not]
    exact ⟨fun g i hi' => h2.1 (by omega) i (Nat.zero_le _) hi', fun g => by have := h2.2 fun j _ hj => g j hj; omega⟩
theorem contains_ev (P : List Int) (hP : P.length ≤ 100000) (v : Int) : ∃ b : Bool, Ev (fun k => slices_Contains95.f k P v) b ∧ (b = true ↔ ∃ i, i < P.length ∧ P.getD i 0 = v) := by
  have key : ∀ d i, i + d = P.length → ∃ r : Int, Ev (fun k => slices_Index120.l2 k P v (P.length : Int) (i : Int)) r ∧ (r ≥ 0 ↔ ∃ j, i ≤ j ∧ j < P.length ∧ P.getD j 0 = v) := by
    intro d
    induction d with
    | zero =>
      intro i hid
      refine ⟨-1, Ev.step (fun k => by rw [slices_Index120.l2]) (Ev.neg (by omega) (Ev.ret _)), ?_⟩
      exact ⟨fun h => absurd h (by decide), fun ⟨j, h1, h2, _⟩ => by omega⟩
    | succ d ih =>
      intro i hid
      have hil : i < P.length := by omega
      have f0 : (i : Int) < (P.length : Int) := by omega
      obtain ⟨r, h1, h2⟩ := ih (i + 1) (by omega)
      by_cases c : v = P.getD i 0
      · refine ⟨(i : Int), Ev.step (fun k => by rw [slices_Index120.l2]) (Ev.pos f0 (Ev.ixS hil ?_)), ⟨fun _ => ⟨i, Nat.le_refl _, hil, c.symm⟩, fun _ => Int.natCast_nonneg _⟩⟩
        rw [rdI_get]
        exact Ev.pos c (Ev.ret _)
      · refine ⟨r, Ev.step (fun k => by rw [slices_Index120.l2]) (Ev.pos f0 (Ev.ixS hil ?_)), h2.trans ⟨fun ⟨j, h3, h4, h5⟩ => ⟨j, by omega, h4, h5⟩, fun ⟨j, h3, h4, h5⟩ => ⟨j, ?_, h4, h5⟩⟩⟩
        · rw [rdI_get, w64_succ hil (by omega)]
          exact Ev.neg c h1
        · apply Nat.lt_of_le_of_ne h3
          rintro rfl
          exact c h5.symm
  obtain ⟨r, h1, h2⟩ := key P.length 0 (by omega)
  refine ⟨decide (r ≥ 0), ?_, ?_⟩
  · unfold slices_Contains95.f slices_Index120.f
    exact Ev.bnd h1 (Ev.ret _)
  · rw [decide_eq_true_eq, h2]
    exact ⟨fun ⟨j, _, h3, h4⟩ => ⟨j, h3, h4⟩, fun ⟨j, h3, h4⟩ => ⟨j, Nat.zero_le _, h3, h4⟩⟩
theorem take_getI (P : List Int) {i j : Nat} (h : j < i) : (P.take i).getD j 0 = P.getD j 0 := by
  rw [List.getD_eq_getElem?_getD, List.getElem?_take, if_pos h, ← List.getD_eq_getElem?_getD]
/-- Are places there twice? -/
theorem twice_loop {l K R : Nat} (h : Cd l K R) (P : List Int) (hP : P.length ≤ 100000) (V : List E) (hV : V.length ≤ 100000) : ∀ d i, i + d = P.length → Dst P i →
    ∃ r : Int, Ev (fun k => code_Code_mayFill.l8 k P (V.map toS) P (P.length : Int) (i : Int) (some (cdS l K R))) r ∧ ((Dst P P.length ∧ r = askE l V ((2 ^ K : Nat) : Int)) ∨ (¬ Dst P P.length ∧ r = 10)) := by
  intro d
  induction d with
  | zero =>
    intro i hid hD
    have : i = P.length := by omega
    subst this
    exact ⟨_, Ev.step (fun k => by rw [code_Code_mayFill.l8]) (Ev.neg (Int.lt_irrefl _) (Ev.bnd (Size_ev h) (Ev.bnd (cAsk_ev l K R V (by omega) _) (Ev.ret _)))), .inl ⟨hD, rfl⟩⟩
  | succ d ih =>
    intro i hid hD
    have hil : i < P.length := by omega
    have f0 : (i : Int) < (P.length : Int) := by omega
    obtain ⟨b, hb, hb2⟩ := contains_ev (P.take i) (by rw [List.length_take]; omega) (P.getD i 0)
    have lt : (P.take i).length = i := by rw [List.length_take]; omega
    have go : ∀ {r : Int}, Ev (fun k => if b = true then some 10 else code_Code_mayFill.l8 k P (V.map toS) P (P.length : Int) ((i + 1 : Nat) : Int) (some (cdS l K R))) r → Ev (fun k => code_Code_mayFill.l8 k P (V.map toS) P (P.length : Int) (i : Int) (some (cdS l K R))) r := fun hh => by
      refine Ev.step (fun k => by rw [code_Code_mayFill.l8]) (Ev.pos f0 (Ev.ixS hil (Ev.pos (Int.natCast_nonneg _) (Ev.pos (by omega) ?_))))
      rw [rdI_get, Int.toNat_natCast, w64_succ hil (by omega)]
      exact Ev.bnd hb hh
    by_cases c : b = true
    · obtain ⟨j, hj, he⟩ := hb2.1 c
      rw [lt] at hj
      rw [take_getI P hj] at he
      exact ⟨10, go (Ev.pos c (Ev.ret _)), .inr ⟨fun hh => hh j i hj hil he, rfl⟩⟩
    · obtain ⟨r, h1, h2⟩ := ih (i + 1) (by omega) fun a q h3 h4 => by
        by_cases e : q = i
        · subst e
          intro he
          exact c (hb2.2 ⟨a, by omega, by rw [take_getI P h3]; exact he⟩)
        · exact hD a q h3 (by omega)
      exact ⟨r, go (Ev.neg c h1), h2⟩
theorem mayFill_ev {l K R : Nat} (h : Cd l K R) (P : List Int) (hP : P.length ≤ 100000) (V : List E) (hV : V.length ≤ 100000) : ∃ r : Int, Ev (fun k => code_Code_mayFill.f k (some (cdS l K R)) P (V.map toS)) r ∧
    ((¬ (P.length = 2 ^ K ∧ V.length = 2 ^ K) ∧ r = 6) ∨ ((P.length = 2 ^ K ∧ V.length = 2 ^ K) ∧ ((¬ (∀ i, i < P.length → inW (2 ^ (K + R)) (P.getD i 0)) ∧ r = 4) ∨ ((∀ i, i < P.length → inW (2 ^ (K + R)) (P.getD i 0)) ∧ ((Dst P P.length ∧ r = askE l V ((2 ^ K : Nat) : Int)) ∨ (¬ Dst P P.length ∧ r = 10)))))) := by
  obtain ⟨b, hb, hb2⟩ := out_ev h P hP
  obtain ⟨r, hr, hr2⟩ := twice_loop h P hP V hV P.length 0 (by omega) fun i j _ h4 => by omega
  unfold code_Code_mayFill.f
  rw [List.length_map]
  by_cases c1 : (P.length : Int) = ((2 ^ K : Nat) : Int)
  · by_cases c2 : (V.length : Int) = ((2 ^ K : Nat) : Int)
    · have hl : P.length = 2 ^ K ∧ V.length = 2 ^ K := by omega
      by_cases c3 : b = true
      · refine ⟨4, Ev.bnd (Size_ev h) (Ev.pos c1 (Ev.bnd (Size_ev h) (Ev.pos c2 (Ev.bnd hb (Ev.pos c3 (Ev.ret _)))))), .inr ⟨hl, .inl ⟨fun hh => ?_, rfl⟩⟩⟩
        have := hb2.2 hh
        rw [this] at c3; cases c3
      · exact ⟨r, Ev.bnd (Size_ev h) (Ev.pos c1 (Ev.bnd (Size_ev h) (Ev.pos c2 (Ev.bnd hb (Ev.neg c3 hr))))), .inr ⟨hl, .inr ⟨hb2.1 (by simpa using c3), hr2⟩⟩⟩
    · exact ⟨6, Ev.bnd (Size_ev h) (Ev.pos c1 (Ev.bnd (Size_ev h) (Ev.neg c2 (Ev.ret _)))), .inl ⟨by omega, rfl⟩⟩
  · exact ⟨6, Ev.bnd (Size_ev h) (Ev.neg c1 (Ev.ret _)), .inl ⟨by omega, rfl⟩⟩
theorem Div_ev {l : Nat} (hl : l ≤ 7) {x y : E} (hx : InL l x) (hy : InL l y) : Ev (fun k => tower_Div.f k (l : Int) (toS x) (toS y)) (toS (x * invT y)) := by
  unfold tower_Div.f
  exact Ev.bnd (Inv_ev hl hy) (Ev.bnd (Mul_ev hl hx (inL_inv hl hy)) (Ev.ret _))
/-- Newton's steps. -/
def nwF (F : Nat → E) (Z : List E) (by_ : E) (j k : Nat) : E := if k < j then F k + by_ * cf Z k else F k
structure Nw (l N : Nat) (x : Nat → E) (V : List E) (i : Nat) (F : Nat → E) (Z : List E) : Prop where
  len : Z.length = i + 1
  zro : ∀ y, evP (cf Z) (i + 1) y = zro x i y
  val : ∀ j, j < i → evP F N (x j) = V.getD j 0
  all : AllS (l : Int) Z
  inl : ∀ k, InL l (F k)
theorem lin_val (x : E) : evP (cf [x, 1]) 2 = fun y => y + x := funext fun y => by
  show (0 + x * 1) + 1 * (1 * y) = y + x
  rw [zero_add, mul_one, one_mul, one_mul, add_comm]
theorem fill_z {l : Nat} (hl : l ≤ 7) {Z : List E} {x : E} {i : Nat} (len : Z.length = i + 1) : (∀ y, evP (cf (cvL Z [x, 1])) (i + 2) y = evP (cf Z) (i + 1) y * (y + x)) ∧ (cvL Z [x, 1]).length = i + 2 := by
  have hlen : (cvL Z [x, 1]).length = i + 2 := by rw [cvL_length, len]; rfl
  refine ⟨fun y => ?_, hlen⟩
  have e1 : evP (cf (cvL Z [x, 1])) (i + 2) y = evP (mulP (cf Z) (cf [x, 1])) (i + 1 + 1) y := evP_congr (fun k hk => by
    rw [show cf (cvL Z [x, 1]) k = mulP (cf Z) (cf [x, 1]) k from rl_get _ _ 0 (by rw [len]; show k < i + 1 + 2 - 1; omega)]) y
  rw [e1, evP_mul (p := i) (q := 1) (fun k hk => cf_out (by omega)) (fun k hk => cf_out (by show 2 ≤ k; omega)), lin_val]
theorem cvL_all {l : Nat} (hl : l ≤ 7) {C D : List E} (aC : AllS (l : Int) C) (aD : AllS (l : Int) D) : AllS (l : Int) (cvL C D) := rl_allS' hl (inL_mulP hl (inL_cf aC) (inL_cf aD))
theorem fill_loop {l K R : Nat} (h : Cd l K R) (h5 : K + R ≤ 5) {P : List Int} {V : List E} (hP : P.length = 2 ^ K) (hV : V.length = 2 ^ K) (hin : ∀ i, i < P.length → inW (2 ^ (K + R)) (P.getD i 0)) (hD : Dst P P.length) (aV : AllS (l : Int) V) :
    ∀ d i, i + d = 2 ^ K → ∀ (F : Nat → E) (Z : List E), Nw l (2 ^ K) (fun j => pt (bE (plB (K + R))) (K + R) (P.getD j 0).toNat) V i F Z →
      ∃ D : List E, D.length = 2 ^ K ∧ AllS (l : Int) D ∧ (∀ j, j < 2 ^ K → (wdL K R D).getD (P.getD j 0).toNat 0 = V.getD j 0) ∧
        Ev (fun k => code_Code_Fill.l7 k (some (cdS l K R)) (V.map toS) (l : Int) P (P.length : Int) (i : Int) ((rl (2 ^ K) F).map toS) (Z.map toS)) (D.map toS, 0) := by
  have hp := h.pow
  have hl := h.l7
  have g := h.good
  have hp5 : 2 ^ (K + R) ≤ 2 ^ 5 := Nat.pow_le_pow_right (by decide) h5
  have hlB : (plB (K + R)).length = K + R := plB_length _
  have hnew : New (bE (plB (K + R))) (K + R) := by have := g.new; rwa [hlB] at this
  have xI : ∀ j, InL l (pt (bE (plB (K + R))) (K + R) (P.getD j 0).toNat) := fun j => inL_pt g.all _ _
  have xne : ∀ i j, i < 2 ^ K → j < 2 ^ K → i ≠ j → pt (bE (plB (K + R))) (K + R) (P.getD i 0).toNat ≠ pt (bE (plB (K + R))) (K + R) (P.getD j 0).toNat := fun i j hi hj hne e => by
    have h1 := hin i (by omega)
    have h2 := hin j (by omega)
    unfold inW at h1 h2
    have := pt_inj (bE (plB (K + R))) (K + R) hnew _ _ (by omega) (by omega) e
    rcases Nat.lt_or_gt_of_ne hne with c | c
    · exact hD i j c (by omega) (by omega)
    · exact hD j i c (by omega) (by omega)
  intro d
  induction d with
  | zero =>
    intro i hid F Z nw
    have : i = 2 ^ K := by omega
    subst this
    have aF : AllS (l : Int) (rl (2 ^ K) F) := rl_allS' hl nw.inl
    obtain ⟨D, d1, d2, d3, d4⟩ := From_ev g (by rw [hlB]; exact h5) (C := rl (2 ^ K) F) (by rw [rl_length, hlB]; exact hp.1) aF
    have d1' := d1
    rw [rl_length] at d1'
    refine ⟨D, d1', d2, fun j hj => ?_, ?_⟩
    · have h1 := hin j (by omega)
      unfold inW at h1
      rw [wdL_get h d1' (by omega), pw_value d1 (by rw [rl_length, hlB]; exact hp.1) d3, rl_length]
      rw [← nw.val j hj]
      exact evP_congr (fun k hk => rl_get _ _ 0 hk) _
    · refine Ev.step (fun k => by rw [code_Code_Fill.l7]) (Ev.neg (by omega) ?_)
      show Ev (fun k => (novel_From.f k (some (spS l (plB (K + R)) (plB (K + R)).length)) ((rl (2 ^ K) F).map toS)).bind fun r11 => some (r11.1, r11.2)) _
      exact Ev.bnd d4 (Ev.ret _)
  | succ d ih =>
    intro i hid F Z nw
    have hil : i < 2 ^ K := by omega
    have f1 : i < P.length := by omega
    have f0 : (i : Int) < (P.length : Int) := by omega
    have f2 : i < (V.map toS).length := by rw [List.length_map]; omega
    have zl := nw.len
    have aZ := nw.all
    have vI : InL l (V.getD i 0) := allS_getD aV i
    have hpi := hin i f1
    unfold inW at hpi
    have ePi : P.getD i 0 = (((P.getD i 0).toNat : Nat) : Int) := by omega
    have hpt := Point_ev g (P.getD i 0)
    have e3 : ptE (plB (K + R)) (P.getD i 0) = pt (bE (plB (K + R))) (K + R) (P.getD i 0).toNat := by
      unfold ptE; rw [hlB]; exact if_pos hpi
    rw [e3] at hpt
    have hxI := xI i
    generalize hx : (fun j => pt (bE (plB (K + R))) (K + R) (P.getD j 0).toNat) = x at *
    have hxi : pt (bE (plB (K + R))) (K + R) (P.getD i 0).toNat = x i := by rw [← hx]
    rw [hxi] at hpt hxI
    have xne' : ∀ j, j < i → x j ≠ x i := fun j hj => by rw [← hx]; exact xne j i (by omega) hil (by omega)
    have aF : AllS (l : Int) (rl (2 ^ K) F) := rl_allS' hl nw.inl
    have ox := ofS_in hl hxI
    have a1 := nAt_ev (l : Int) (rl (2 ^ K) F) (by rw [rl_length]; omega) (x i)
    have e1 : atE (l : Int) (rl (2 ^ K) F) (x i) = evP F (2 ^ K) (x i) := by
      unfold atE
      rw [if_pos ⟨ox, aF⟩, rl_length]
      exact evP_congr (fun k hk => rl_get _ _ 0 hk) _
    have i1 : InL l (evP F (2 ^ K) (x i)) := by rw [← e1]; exact inL_at hl _ _
    rw [e1] at a1
    have a2 := nAt_ev (l : Int) Z (by omega) (x i)
    have e2 : atE (l : Int) Z (x i) = zro x i (x i) := by
      unfold atE
      rw [if_pos ⟨ox, aZ⟩, zl, nw.zro]
    have i2 : InL l (zro x i (x i)) := by rw [← e2]; exact inL_at hl _ _
    rw [e2] at a2
    have hz0 : zro x i (x i) ≠ 0 := zro_ne x xne'
    have hdv := Div_ev hl (inL_add vI i1) i2
    generalize hby : (V.getD i 0 + evP F (2 ^ K) (x i)) * invT (zro x i (x i)) = q at *
    have qI : InL l q := by rw [← hby]; exact inL_mul hl (inL_add vI i1) (inL_inv hl i2)
    -- what follows the inner loop
    have tl := fill_z hl (x := x i) zl
    have aX : AllS (l : Int) [x i, 1] := fun y hy => by
      rcases List.mem_cons.1 hy with rfl | hy
      · exact ox
      · rcases List.mem_cons.1 hy with rfl | hy
        · exact ofS_in hl (inL_one l)
        · cases hy
    have ht := nTimes_ev (l : Int) Z [x i, 1] (by omega) (by show 2 ≤ 100; decide)
    have et : tmE (l : Int) Z [x i, 1] = cvL Z [x i, 1] := if_neg (by
      rintro (h | h | h | h)
      · omega
      · exact Nat.succ_ne_zero 1 h
      · exact h aZ
      · exact h aX)
    rw [et] at ht
    have nw' : Nw l (2 ^ K) x V (i + 1) (fun k => F k + q * cf Z k) (cvL Z [x i, 1]) := by
      have hev : ∀ y, evP (fun k => F k + q * cf Z k) (2 ^ K) y = evP F (2 ^ K) y + q * zro x i y := fun y => by
        rw [evP_add, evP_scale, ← nw.zro y]
        congr 2
        exact evP_more (by omega) (fun k hk => cf_out (by omega)) y
      refine ⟨tl.2, fun y => ?_, fun j hj => ?_, cvL_all hl aZ aX, fun k => inL_add (nw.inl k) (inL_mul hl qI (inL_cf aZ k))⟩
      · rw [tl.1 y, nw.zro y]; rfl
      · rw [hev]
        by_cases c : j = i
        · subst c
          rw [← hby, mul_assoc, invT_mul hz0, mul_one, add_comm, add_assoc, add_self, add_zero]
        · rw [nw.val j (by omega), zro_zero x (show j < i by omega), mul_zero, add_zero]
    obtain ⟨D, d1, d2, d3, d4⟩ := ih (i + 1) (by omega) _ _ nw'
    refine ⟨D, d1, d2, d3, ?_⟩
    have e0 : rl (2 ^ K) F = rl (2 ^ K) (nwF F Z q 0) := rl_congr _ fun k _ => by unfold nwF; rw [if_neg (by omega)]
    refine Ev.step (fun k => by rw [code_Code_Fill.l7]) (Ev.pos f0 (Ev.ixS f1 ?_))
    show Ev (fun k => (linpoly_Space_Point.f k (some (spS l (plB (K + R)) (plB (K + R)).length)) (rdI P (i : Int))).bind fun r5 => _) _
    rw [rdI_get]
    refine Ev.bnd hpt (Ev.ixS f2 (Ev.bnd a1 ?_))
    rw [rdS]
    refine Ev.bnd (Add_ev _ _) (Ev.bnd a2 (Ev.bnd hdv ?_))
    rw [List.length_map, zl, e0]
    refine Ev.down (g := fun j k => code_Code_Fill.l13 k (some (cdS l K R)) (V.map toS) (l : Int) P (P.length : Int) (i : Int) ((i + 1 : Nat) : Int) (j : Int) ((rl (2 ^ K) (nwF F Z q j)).map toS) (Z.map toS) (hi (x i)) (lo (x i)) (hi q) (lo q)) (n := i + 1) ?_ fun j hj hjh => ?_
    · have e4 : rl (2 ^ K) (nwF F Z q (i + 1)) = rl (2 ^ K) fun k => F k + q * cf Z k := rl_congr _ fun k _ => by
        unfold nwF
        by_cases c : k < i + 1
        · rw [if_pos c]
        · rw [if_neg c, cf_out (C := Z) (by omega), mul_zero, add_zero]
      rw [e4]
      refine Ev.step (fun k => by rw [code_Code_Fill.l13]) (Ev.neg (Int.lt_irrefl _) (Ev.bnd One_ev ?_))
      rw [w64_succ f1 (by omega)]
      exact Ev.bnd ht d4
    · have g0 : (j : Int) < ((i + 1 : Nat) : Int) := by omega
      have g1 : j < (Z.map toS).length := by rw [List.length_map]; omega
      have g2 : j < ((rl (2 ^ K) (nwF F Z q j)).map toS).length := by rw [List.length_map, rl_length]; omega
      have e5 : (rl (2 ^ K) (nwF F Z q j)).getD j 0 = F j := by rw [rl_get _ _ 0 (by omega)]; unfold nwF; rw [if_neg (by omega)]
      have e6 : (rl (2 ^ K) (nwF F Z q j)).set j (F j + q * Z.getD j 0) = rl (2 ^ K) (nwF F Z q (j + 1)) := by
        rw [rl_set]
        refine rl_congr _ fun k _ => ?_
        unfold nwF
        by_cases c : k = j
        · subst c; rw [if_pos rfl, if_pos (by omega)]; rfl
        · rw [if_neg c]
          by_cases d : k < j
          · rw [if_pos d, if_pos (by omega)]
          · rw [if_neg d, if_neg (by omega)]
      refine Ev.step (fun k => by rw [code_Code_Fill.l13]) (Ev.pos g0 (Ev.ixS g1 (Ev.ixS g2 ?_)))
      rw [rdS, rdS, e5, w64_succ hj (by omega)]
      refine Ev.bnd (Mul_ev hl qI (inL_cf aZ j)) (Ev.bnd (Add_ev _ _) (Ev.ixS g2 ?_))
      rw [Int.toNat_natCast, map_set, e6]
      exact hjh
theorem Fill_fit {l K R : Nat} (h : Cd l K R) (h5 : K + R ≤ 5) {P : List Int} {V : List E} (hP : P.length = 2 ^ K) (hV : V.length = 2 ^ K) (hin : ∀ i, i < P.length → inW (2 ^ (K + R)) (P.getD i 0)) (hD : Dst P P.length) (aV : AllS (l : Int) V) :
    ∃ D : List E, D.length = 2 ^ K ∧ AllS (l : Int) D ∧ (∀ j, j < 2 ^ K → (wdL K R D).getD (P.getD j 0).toNat 0 = V.getD j 0) ∧ Ev (fun k => code_Code_Fill.f k (some (cdS l K R)) P (V.map toS)) (D.map toS, 0) := by
  have hp := h.pow
  have hl := h.l7
  obtain ⟨r, hr, hr2⟩ := mayFill_ev h P (by omega) V (by omega)
  have r0 : r = 0 := by
    rcases hr2 with ⟨h1, _⟩ | ⟨_, ⟨h1, _⟩ | ⟨_, ⟨_, h1⟩ | ⟨h1, _⟩⟩⟩
    · exact absurd ⟨hP, hV⟩ h1
    · exact absurd hin h1
    · rw [h1]; unfold askE; rw [hV, if_pos rfl, if_pos aV]
    · exact absurd hD h1
  rw [r0] at hr
  have nw : Nw l (2 ^ K) (fun j => pt (bE (plB (K + R))) (K + R) (P.getD j 0).toNat) V 0 (fun _ => 0) [1] :=
    ⟨rfl, fun y => by show 0 + 1 * 1 = (1 : E); rw [mul_one, zero_add], fun j hj => by omega, fun y hy => ((List.mem_cons.1 hy).elim (fun e => e ▸ ofS_in hl (inL_one l)) fun h => by cases h), fun _ => inL_zero l⟩
  obtain ⟨D, d1, d2, d3, d4⟩ := fill_loop h h5 hP hV hin hD aV (2 ^ K) 0 (by omega) _ _ nw
  refine ⟨D, d1, d2, d3, ?_⟩
  have f1 : ((2 ^ K : Nat) : Int) ≤ 140737488355328 / ((16 : Nat) : Int) := by omega
  have hz : List.replicate (2 ^ K) z34 = (rl (2 ^ K) fun _ => (0 : E)).map toS := by
    have : (rl (2 ^ K) fun _ => (0 : E)) = List.replicate (2 ^ K) 0 := by
      refine ext_getD (by rw [rl_length, List.length_replicate]) fun p hp => ?_
      rw [rl_length] at hp
      rw [rl_get _ _ 0 hp, List.getD_eq_getElem?_getD, List.getElem?_replicate, if_pos hp]; rfl
    rw [this, List.map_replicate, toS_zero]
  unfold code_Code_Fill.f
  refine Ev.bnd hr (Ev.pos rfl (Ev.bnd (cLevel_ev l K R) (Ev.bnd (Size_ev h) (Ev.pos (Int.natCast_nonneg _) (Ev.pos f1 (Ev.bnd One_ev ?_))))))
  rw [Int.toNat_natCast, hz]
  exact d4
theorem Fill_no {l K R : Nat} {P : List Int} {V : List E} {r : Int} (hr : Ev (fun k => code_Code_mayFill.f k (some (cdS l K R)) P (V.map toS)) r) (h0 : r ≠ 0) : Ev (fun k => code_Code_Fill.f k (some (cdS l K R)) P (V.map toS)) ([], r) := by
  unfold code_Code_Fill.f
  exact Ev.bnd hr (Ev.neg h0 (Ev.ret _))
end Go.Proofs.Ytbapldgapbmdkaa.Sp
namespace Go.Proofs.Ytbapldgapbmdkaa.Pure
open Go.Proofs.Ytbapldgapbmdkaa.V.B Go.RowKit Go.Proofs.Ytbapldgapbmdkaa.B Go.Proofs.Ytbapldgapbmdkaa.V.B.Ar Go.Proofs.Ytbapldgapbmdkaa.V.B.Tw Sp
set_option linter.unusedVariables false
theorem fine_ev : Ev (fun k => steepletop_fine.f k) true := Ev.at 400 fun k => by kernel_rfl
theorem whole_j4 : Ev (fun k => steepletop_TopWhole.j4 k) true := Ev.step (fun k => by rw [steepletop_TopWhole.j4]) (Ev.bnd fine_ev (Ev.ret _))
/-- Places from the last one on. -/
def rvI (n : Nat) : List Int := rl n fun j => ((n - 1 - j : Nat) : Int)
def rvE (W : List E) : List E := rl W.length fun j => W.getD (W.length - 1 - j) 0
theorem take_succ_rl {α : Type} (M : Nat) (f : Nat → α) {i : Nat} (h : i < M) : (rl M f).take (i + 1) = (rl M f).take i ++ [f i] := by
  have hl : i < (rl M f).length := by rw [rl_length]; exact h
  rw [List.take_add_one, List.getElem?_eq_getElem hl, rl_getElem]; rfl
theorem TopWhole : Stated.topWhole.Pure := by
  rintro ⟨L, a, r⟩ WS _ ⟨hWS, _⟩
  obtain ⟨W, rfl⟩ := list_of WS hWS
  refine Ev.rounds (g := fun k => steepletop_TopWhole.f k ⟨L, a, r⟩ (W.map toS)) ?_
  unfold steepletop_TopWhole.f
  dsimp only
  rw [List.length_map]
  rcases Shape_ev L a 0 with ⟨l, K, R, rfl, rfl, hR, h, h5, hm⟩ | hm
  · have hR : R = 0 := by omega
    subst hR
    have hp := h.pow
    refine Ev.bnd hm ?_
    show Ev (fun k => if (W.length : Int) > 40 then _ else _) true
    by_cases c1 : (W.length : Int) > 40
    · exact Ev.pos c1 whole_j4
    refine Ev.neg c1 (Ev.bnd fine_ev (Ev.neg (by decide) ?_))
    by_cases c2 : askE l W ((2 ^ (K + 0) : Nat) : Int) = 0
    · obtain ⟨hW, aW⟩ := askE_zero c2
      have g := h.good
      have hd := Decode_fit h hW aW
      have lb := bkL_length (plB (K + 0)) 0 (K + 0) W
      have ab := bkL_all g (inL_zero l) (K + 0) aW
      have fb := fw_bk (plB (K + 0)) 0 hW
      rw [if_neg (by have := dgI_lt (bkL (plB (K + 0)) 0 (K + 0) W) (2 ^ (K + 0)); rw [Nat.add_zero] at this ⊢; omega)] at hd
      generalize hM : bkL (plB (K + 0)) 0 (K + 0) W = M at *
      have lM : M.length = 2 ^ K := lb
      rw [List.take_of_length_le (by omega)] at hd
      have pM : padL M (2 ^ (K + 0)) = M := by unfold padL; rw [lb, Nat.sub_self]; exact List.append_nil _
      have wM : wdL K 0 M = W := by unfold wdL; rw [pM]; exact fb
      have he := Encode_fit h lM ab
      rw [wM] at he
      have n1 : W.length = 2 ^ K := hW
      have lP : (rvI W.length).length = W.length := rl_length _ _
      have lV : (rvE W).length = W.length := rl_length _ _
      have gP : ∀ j, j < W.length → (rvI W.length).getD j 0 = ((W.length - 1 - j : Nat) : Int) := fun j hj => rl_get _ _ 0 hj
      have gV : ∀ j, j < W.length → (rvE W).getD j 0 = W.getD (W.length - 1 - j) 0 := fun j hj => rl_get _ _ 0 hj
      have aV : AllS (l : Int) (rvE W) := rl_allS h.l7 fun q => allS_getD aW _
      obtain ⟨D, d1, d2, d3, d4⟩ := Fill_fit h h5 (P := rvI W.length) (V := rvE W) (by omega) (by omega)
        (fun i hi => by rw [lP] at hi; rw [gP i hi]; unfold inW; rw [Nat.add_zero]; omega)
        (fun i j hij hj => by rw [lP] at hj; rw [gP i (by omega), gP j hj]; omega) aV
      have hwD : wdL K 0 D = W := by
        refine ext_getD (by rw [wdL_length]; omega) fun q hq => ?_
        rw [wdL_length, Nat.add_zero] at hq
        have hj := d3 (W.length - 1 - q) (by omega)
        rw [gP _ (by omega), gV _ (by omega), Int.toNat_natCast, show W.length - 1 - (W.length - 1 - q) = q by omega] at hj
        exact hj
      have hDM : D = M := by
        have hb := bk_wd h d1
        rw [hwD, hM] at hb
        have pD : padL D (2 ^ (K + 0)) = D := by unfold padL; rw [d1, Nat.add_zero, Nat.sub_self]; exact List.append_nil _
        rw [pD] at hb
        exact hb.symm
      rw [hDM] at d4
      refine Ev.bnd hd (Ev.neg (show ¬ ((0 : Int) = 6) by decide) (Ev.neg (show ¬ ((0 : Int) = 5) by decide) (Ev.bnd he ?_)))
      have ew : wrap64 ((W.length : Int) - 1) = (W.length : Int) - 1 := w64_id (by omega) (by omega)
      rw [ew]
      suffices key : Ev (fun k => steepletop_TopWhole.l12 k (W.map toS) (some (cdS l K 0)) 0 0 ((W.length : Int) - 1 - ((0 : Nat) : Int)) (M.map toS) (W.map toS) ((rvI W.length).take 0) (((rvE W).take 0).map toS)) true by
        have e0 : (W.length : Int) - 1 - ((0 : Nat) : Int) = (W.length : Int) - 1 := by omega
        rw [e0, List.take_zero, List.take_zero] at key
        exact key
      refine Ev.down (g := fun j k => steepletop_TopWhole.l12 k (W.map toS) (some (cdS l K 0)) 0 0 ((W.length : Int) - 1 - (j : Int)) (M.map toS) (W.map toS) ((rvI W.length).take j) (((rvE W).take j).map toS)) (n := W.length) ?_ fun j hj hjh => ?_
      · rw [List.take_of_length_le (by omega), List.take_of_length_le (by omega)]
        refine Ev.step (fun k => by rw [steepletop_TopWhole.l12]) (Ev.neg (by omega) (Ev.bnd d4 (Ev.pos rfl (Ev.pos rfl (Ev.pos rfl (Ev.bnd (Ref_ev W (by omega)) (Ev.bnd (same_self W (by omega)) (Ev.pos rfl (Ev.bnd (Ref_ev M (by omega)) (Ev.bnd (same_self M (by omega)) (Ev.ret _)))))))))))
      · have ei : (W.length : Int) - 1 - (j : Int) = ((W.length - 1 - j : Nat) : Int) := by omega
        have e1 : wrap64 ((W.length : Int) - 1 - (j : Int) - 1) = (W.length : Int) - 1 - ((j + 1 : Nat) : Int) := by rw [w64_id (by omega) (by omega)]; omega
        have f1 : W.length - 1 - j < (W.map toS).length := by rw [List.length_map]; omega
        have f3 : ∀ z : Int, ((rvI W.length).take j).length + [z].length ≤ 140737488355328 / 8 := fun z => by
          rw [List.length_take, lP, List.length_singleton]; omega
        have f4 : ∀ z : S34, (((rvE W).take j).map toS).length + [z].length ≤ 140737488355328 / 16 := fun z => by
          rw [List.length_map, List.length_take, lV, List.length_singleton]; omega
        have s1 : (rvI W.length).take (j + 1) = (rvI W.length).take j ++ [((W.length - 1 - j : Nat) : Int)] := take_succ_rl _ _ hj
        have s2 : (rvE W).take (j + 1) = (rvE W).take j ++ [W.getD (W.length - 1 - j) 0] := take_succ_rl _ _ hj
        rw [s1, s2, List.map_append] at hjh
        refine Ev.step (fun k => by rw [steepletop_TopWhole.l12]) ?_
        rw [e1, ei]
        refine Ev.pos (Int.natCast_nonneg _) (Ev.pos (f3 _) (Ev.ixS f1 ?_))
        rw [rdS]
        exact Ev.pos (f4 _) hjh
    · have hd := Decode_no h (by omega) c2
      refine Ev.bnd hd ?_
      have : askE l W ((2 ^ (K + 0) : Nat) : Int) = 6 ∨ askE l W ((2 ^ (K + 0) : Nat) : Int) = 5 := by
        unfold askE at c2 ⊢
        by_cases e : (W.length : Int) = ((2 ^ (K + 0) : Nat) : Int)
        · rw [if_pos e] at c2 ⊢
          by_cases d : AllS (l : Int) W
          · rw [if_pos d] at c2; exact absurd rfl c2
          · rw [if_neg d]; exact .inr rfl
        · rw [if_neg e]; exact .inl rfl
      rcases this with e | e
      · exact Ev.pos e (Ev.ret _)
      · exact Ev.neg (by rw [e]; decide) (Ev.pos e (Ev.ret _))
  · exact Ev.bnd hm whole_j4
end Go.Proofs.Ytbapldgapbmdkaa.Pure
namespace Go.Proofs.Ytbapldgapbmdkaa.topWhole
open Go.Proofs.Ytbapldgapbmdkaa.V.B Go.ChangeShapes Go.WideShapes Go.ChangeAt Go.RowKit Go.Proofs.Ytbapldgapbmdkaa.B
set_option linter.unusedVariables false
set_option linter.unusedSimpArgs false
theorem own : ownKnob Try.prog.godebug = none := by kernel_rfl
theorem laidOut : laidOutB Try.prog = true := by kernel_rfl
def tab1 : Tab := ⟨[(3, .int .i64), (23, .st 0), (24, .slice (.st 1)), (32, .int .u64), (34, .st 1)], [], [(24, 16)], [], []⟩
theorem tab1_ok : tab1.chk E Try.prog = true := by kernel_rfl
theorem tie1 (calls : Nat → Option (Sig E.toTys)) : Tie (XR E) Try.prog (tab1.ctx calls) := tie_of zl_ok tab1_ok calls
theorem sts : chkSt E Try.prog tab1 tab1.tys = true := by kernel_rfl
set_option maxRecDepth 100000 in
theorem lifted (os : Os) (started : os.Started) (H : Type) (enc : TypeId × Value → H) :
    ReturnsInHanded {} Try.checked os 3 .any (Rows.topWholeSpec.pre6 enc Try.prog Try.f3 Rows.topWholeRow.domain false) (Rows.topWholeSpec.post enc Try.prog Try.f3 false true false false) := by
  refine returnsInHanded_of_change_sized (C := Try.checked) own started (by kernel_rfl) Try.func3
    (ChangeSpec.witness6 (enc := enc) (C := Try.checked) false ⟨#[], #[.agg #[.int .i64 0, .int .i64 0, .int .i64 0], .slice none 0 0], []⟩ 8 (by kernel_rfl) (by kernel_rfl) (by kernel_rfl) (by kernel_rfl)) ?_
  intro W base args ds gs before hval0 hW hcnd hsz0 _
  have hval : ∀ (j : Nat) t v, Try.f3.params[j]? = some t → args[j]? = some v → Value.okWide Try.prog W .any base t v := hval0
  have hW' := hW
  obtain ⟨p, q, hA0, hV, rfl, hfz, hnd⟩ := hW
  have hA : DataW.TrodAll enc Try.prog W 0 (fun _ => true) true Try.f3.params.toList args.toList ds p := hA0
  rw [Try.params3] at hA hval
  obtain ⟨v0, vs0, d0, ds0, p0, q0, hargs, rfl, rfl, h0, r0⟩ := trodAll_cons hA
  obtain ⟨v1, vs1, d1, ds1, p1, q1, rfl, rfl, rfl, h1, r1⟩ := trodAll_cons r0
  obtain ⟨rfl, rfl, rfl⟩ := trodAll_nil r1
  obtain rfl : args = #[v0, v1] := by cases args; simp_all
  obtain ⟨rfl, rfl⟩ := trodVars_none hV
  have k0 := h0
  have lt0 : ∀ x ∈ p0, x.block < W.heap.size := by obtain ⟨m, hm⟩ := k0; exact DataW.trod_lt m _ _ _ hm
  obtain ⟨x0, cs0, e0, R0, g0⟩ := arg_ok tie1 sts (t := 23) (ty := .st 0) rfl rfl (hval 0 23 v0 rfl rfl) h0
  have k1 := h1
  have lt1 : ∀ x ∈ p1, x.block < W.heap.size := by obtain ⟨m, hm⟩ := k1; exact DataW.trod_lt m _ _ _ hm
  obtain ⟨x1, cs1, e1, R1, g1⟩ := arg_ok tie1 sts (t := 24) (ty := .slice (.st 1)) rfl rfl (hval 1 24 v1 rfl rfl) h1
  clear hA0 hval0 hsz0
  obtain ⟨k, hpure⟩ := Pure.TopWhole x0 x1 (g0 4) (g1 4)
  refine ((steepletop_TopWhole.ok k).1 (x0, (x1, ())) true hpure W (fun b => b < W.heap.size) [v0, v1] (fun b hb => hb) ⟨_, _, cs0, rfl, R0, e0, ⟨_, _, cs1, rfl, R1, e1, rfl⟩⟩).mono fun e W2 hh => ?_
  obtain ⟨rfl, bel⟩ := ret_bool hh
  exact ⟨_, rfl, _, _, _, [], _, [], hW', trodAll_mk1 (shut_bool Try.underlying4 _), (trodAll_cons_mk (Below.trod laidOut (by kernel_rfl) (of_decide_eq_true (by kernel_rfl)) k0 bel lt0) (trodAll_cons_mk (Below.trod laidOut (by kernel_rfl) (of_decide_eq_true (by kernel_rfl)) k1 bel lt1) trodAll_mk0)), rfl, bel.frame _, fun h => by cases h⟩
theorem over : Rows.topWholeRow.holds Try.pinned (OpenSpec.ofChange Rows.topWholeSpec) :=
  OpenClaim.holds_of_wide 3 Try.f3 rfl rfl rfl rfl rfl rfl rfl ⟨rfl, rfl, rfl, rfl, rfl⟩ rfl rfl rfl rfl rfl (by kernel_rfl) Try.func3 (by kernel_rfl)
    (of_decide_eq_true (by kernel_rfl)) (by unfold Func.isWrapper; first | (rw [if_pos (by decide +kernel)]; kernel_rfl) | (rw [if_neg (by decide +kernel)]; exact ⟨rfl, rfl⟩))
    (fun os started H enc _ => lifted os started H enc)
end Go.Proofs.Ytbapldgapbmdkaa.topWhole
namespace Go.Proofs.Ytbapldgapbmdkaa
/-- The law, for every input. -/
theorem topWhole_holds : Rows.TopWholeSaid := topWhole.over
#print axioms topWhole_holds
end Go.Proofs.Ytbapldgapbmdkaa

/- RingCounts: wrong parts are seen but for few elements; for levels 1 and 2, up to 32 bits, and any parts. Own text. -/
import Derived.Test.YtklkmflhnljbdaaRows
import Derived.WalkKit
import Derived.ProofKit
import Derived.OpenShut
import Derived.ShutString
import Derived.ChangeOld
import Derived.Below
import Derived.SizedLaws
import Derived.Carry
import Derived.Test.YtklkmflhnljbdaaMRingCountsb
import Derived.Test.YtklkmflhnljbdaaMRingCountsc
import Derived.Test.YtklkmflhnljbdaaMRingCountsd
import Derived.Test.YtklkmflhnljbdaaMRingCountse
import Derived.Test.YtklkmflhnljbdaaMRingCountsf
/- Elements as rows of bits: the leading bit, whether bits stand below n, bits turned about. Own text. -/
namespace Go.Proofs.Ytklkmflhnljbdaa.Sp
open Go.RowKit Go.Proofs.YtklkmflhnljbdaaW.PrintWords Go.Proofs.YtklkmflhnljbdaaW.PrintMore Go.Proofs.Ytklkmflhnljbdaa.P Go.Proofs.Ytklkmflhnljbdaa.Ar Go.Proofs.Ytklkmflhnljbdaa.Tw
set_option linter.unusedVariables false
/-- How many bits a number has. -/
def blen (n : Nat) : Nat := if n = 0 then 0 else Nat.log2 n + 1
theorem z3h (n k : Nat) : blen n ≤ k ↔ n < 2 ^ k := by
  unfold blen
  by_cases h : n = 0
  · rw [if_pos h, h]
    exact ⟨fun _ => Nat.two_pow_pos k, fun _ => Nat.zero_le _⟩
  · rw [if_neg h, ← Nat.log2_lt h]
    exact ⟨fun h => h, fun h => h⟩
theorem z2J (n s : Nat) (h : 2 ^ s ≤ n) : blen n = blen (n / 2 ^ s) + s := by
  have key : ∀ k, blen n ≤ k + s ↔ blen (n / 2 ^ s) ≤ k := by
    intro k
    rw [z3h, z3h, Nat.div_lt_iff_lt_mul (Nat.two_pow_pos s), ← Nat.pow_add]
  have hs : s ≤ blen n := by
    apply Classical.byContradiction
    intro g
    have := (z3h n s).1 (by omega)
    omega
  have h1 := (key (blen (n / 2 ^ s))).2 (Nat.le_refl _)
  have h2 := (key (blen n - s)).1 (by omega)
  omega
def len8 : ByteArray := ⟨#[0, 1, 2, 2, 3, 3, 3, 3, 4, 4, 4, 4, 4, 4, 4, 4, 5, 5, 5, 5, 5, 5, 5, 5, 5, 5, 5, 5, 5, 5, 5, 5, 6, 6, 6, 6, 6, 6, 6, 6, 6, 6, 6, 6, 6, 6, 6, 6, 6, 6, 6, 6, 6, 6, 6, 6, 6, 6, 6, 6, 6, 6, 6, 6, 7, 7, 7, 7, 7, 7, 7, 7, 7, 7, 7, 7, 7, 7, 7, 7, 7, 7, 7, 7, 7, 7, 7, 7, 7, 7, 7, 7, 7, 7, 7, 7, 7, 7, 7, 7, 7, 7, 7, 7, 7, 7, 7, 7, 7, 7, 7, 7, 7, 7, 7, 7, 7, 7, 7, 7, 7, 7, 7, 7, 7, 7, 7, 7, 8, 8, 8, 8, 8, 8, 8, 8, 8, 8, 8, 8, 8, 8, 8, 8, 8, 8, 8, 8, 8, 8, 8, 8, 8, 8, 8, 8, 8, 8, 8, 8, 8, 8, 8, 8, 8, 8, 8, 8, 8, 8, 8, 8, 8, 8, 8, 8, 8, 8, 8, 8, 8, 8, 8, 8, 8, 8, 8, 8, 8, 8, 8, 8, 8, 8, 8, 8, 8, 8, 8, 8, 8, 8, 8, 8, 8, 8, 8, 8, 8, 8, 8, 8, 8, 8, 8, 8, 8, 8, 8, 8, 8, 8, 8, 8, 8, 8, 8, 8, 8, 8, 8, 8, 8, 8, 8, 8, 8, 8, 8, 8, 8, 8, 8, 8, 8, 8, 8, 8, 8, 8, 8, 8, 8, 8, 8, 8]⟩
theorem len8_eq : ∀ b : Nat, b < 256 → bt len8 (b : Int) = ((blen b : Nat) : Int) := by decide +kernel
theorem len_j0 (n : Nat) (hn : n < 2 ^ 32) (x : Nat) (hx : x ≤ 1000) : Ev (fun k => z1g.j0 k (n : Int) (x : Int)) ((x + blen n : Nat) : Int) := by
  have fin : ∀ (m y : Nat), m < 256 → y ≤ 2000 → wrap64 ((y : Int) + wrap64 (bt len8 (m : Int))) = ((y + blen m : Nat) : Int) := by
    intro m y hm hy
    have hb : blen m ≤ 8 := (z3h m 8).2 hm
    rw [len8_eq m hm, z28 (x := ((blen m : Nat) : Int)) (by omega) (by omega)]
    exact z7E (by omega) (by omega)
  have e16 : wrap64 ((x : Int) + 16) = ((x + 16 : Nat) : Int) := by rw [z28 (by omega) (by omega)]; omega
  have e8 : wrap64 ((x : Int) + 8) = ((x + 8 : Nat) : Int) := by rw [z28 (by omega) (by omega)]; omega
  have e24 : wrap64 ((((x + 16 : Nat) : Int)) + 8) = ((x + 24 : Nat) : Int) := by rw [z28 (by omega) (by omega)]; omega
  refine Ev.step (fun k => by rw [z1g.j0]) ?_
  by_cases c1 : (n : Int) ≥ 65536
  · refine Ev.pos c1 ?_
    have hb := z2J n 16 (by omega)
    have q1 : (n : Int) / 65536 = ((n / 2 ^ 16 : Nat) : Int) := by omega
    rw [q1, e16, e24]
    generalize hq : n / 2 ^ 16 = q at hb
    have hq16 : q < 65536 := by omega
    by_cases c2 : (q : Int) ≥ 256
    · refine Ev.pos c2 ?_
      have hb2 := z2J q 8 (by omega)
      have q2 : ((q : Int) / 256) % 256 = ((q / 2 ^ 8 : Nat) : Int) := by omega
      rw [q2]
      refine Ev.pos (Int.natCast_nonneg _) (Ev.pos (by omega) (Ev.ret' ?_))
      have := fin (q / 2 ^ 8) (x + 24) (by omega) (by omega)
      refine this.trans ?_
      omega
    · refine Ev.neg c2 ?_
      have q2 : (q : Int) % 256 = (q : Int) := by omega
      rw [q2]
      refine Ev.pos (Int.natCast_nonneg _) (Ev.pos (by omega) (Ev.ret' ?_))
      have := fin q (x + 16) (by omega) (by omega)
      refine this.trans ?_
      omega
  · refine Ev.neg c1 ?_
    by_cases c2 : (n : Int) ≥ 256
    · refine Ev.pos c2 ?_
      have hb2 := z2J n 8 (by omega)
      have q2 : ((n : Int) / 256) % 256 = ((n / 2 ^ 8 : Nat) : Int) := by omega
      rw [q2, e8]
      refine Ev.pos (Int.natCast_nonneg _) (Ev.pos (by omega) (Ev.ret' ?_))
      have := fin (n / 2 ^ 8) (x + 8) (by omega) (by omega)
      refine this.trans ?_
      omega
    · refine Ev.neg c2 ?_
      have q2 : (n : Int) % 256 = (n : Int) := by omega
      rw [q2]
      refine Ev.pos (Int.natCast_nonneg _) (Ev.pos (by omega) (Ev.ret' ?_))
      exact fin n x (by omega) (by omega)
theorem z5U (n : Nat) (hn : n < 2 ^ 64) : Ev (fun k => z1g.f k (n : Int)) ((blen n : Nat) : Int) := by
  unfold z1g.f
  by_cases c : (n : Int) ≥ 4294967296
  · refine Ev.pos c ?_
    have q1 : (n : Int) / 4294967296 = ((n / 2 ^ 32 : Nat) : Int) := by omega
    have hb := z2J n 32 (by omega)
    rw [q1, hb, Nat.add_comm]
    exact len_j0 (n / 2 ^ 32) (by omega) 32 (by decide)
  · refine Ev.neg c ?_
    have := len_j0 n (by omega) 0 (by decide)
    rw [Nat.zero_add] at this
    exact this
/-- The leading bit. -/
theorem lead_ev (x : E) : Ev (fun k => z1Q.f k (hi x) (lo x)) (((blen (val x) : Nat) : Int) - 1) := by
  have h1 := hi_bd x
  have h2 := z6z x
  have hv := z4r x
  unfold z1Q.f
  obtain ⟨h, hh⟩ := Int.eq_ofNat_of_zero_le h1.1
  obtain ⟨l, hl⟩ := Int.eq_ofNat_of_zero_le h2.1
  rw [hh] at h1 hv ⊢
  rw [hl] at h2 hv ⊢
  rw [Int.toNat_natCast, Int.toNat_natCast] at hv
  by_cases c : (h : Int) = 0
  · refine Ev.pos c (Ev.bnd (z5U l (by omega)) (Ev.ret' ?_))
    have : val x = l := by omega
    rw [this]
    have hb : blen l ≤ 64 := (z3h l 64).2 (by omega)
    exact z28 (by omega) (by omega)
  · refine Ev.neg c (Ev.bnd (z5U h (by omega)) (Ev.ret' ?_))
    have hb : blen h ≤ 64 := (z3h h 64).2 (by omega)
    have hs := z2J (val x) 64 (by omega)
    have hd : val x / 2 ^ 64 = h := by omega
    rw [hd] at hs
    rw [hs, z28 (by omega) (by omega)]
    omega
/-- Do all elements have bits below n alone? -/
def InN (n : Nat) (X : List E) : Prop := ∀ x ∈ X, val x < 2 ^ n
instance (n : Nat) (X : List E) : Decidable (InN n X) := by unfold InN; infer_instance
theorem z5C (n : Nat) (hn : n ≤ 1000000) : ∀ (X : List E), Ev (fun k => zK.f k (X.map toS) (n : Int)) (decide (InN n X))
  | [] => by refine Ev.ret' ?_; symm; rw [decide_eq_true_eq]; intro x hx; cases hx
  | x :: xs => by
    show Ev (fun k => (zK.q.f k (n : Int) (toS x).f0 (toS x).f1).bind fun b => if b = true then zK.all k (n : Int) (xs.map toS) else some false) _
    have hq : Ev (fun k => zK.q.f k (n : Int) (hi x) (lo x)) (decide (val x < 2 ^ n)) := by
      unfold zK.q.f
      refine Ev.bnd (lead_ev x) (Ev.ret' ?_)
      have := z3h (val x) n
      by_cases c : val x < 2 ^ n
      · have h2 := this.2 c
        rw [decide_eq_true c, decide_eq_false (show ¬ (((blen (val x) : Nat) : Int) - 1 ≥ (n : Int)) by omega)]; rfl
      · have h2 : ¬ blen (val x) ≤ n := fun h => c (this.1 h)
        rw [decide_eq_false c, decide_eq_true (show ((blen (val x) : Nat) : Int) - 1 ≥ (n : Int) by omega)]; rfl
    refine Ev.bnd hq ?_
    have hd : InN n (x :: xs) ↔ val x < 2 ^ n ∧ InN n xs := List.forall_mem_cons
    by_cases c : val x < 2 ^ n
    · refine Ev.pos (decide_eq_true c) ((z5C n hn xs).eqn ?_)
      rw [decide_eq_decide, hd]; exact ⟨fun h => ⟨c, h⟩, fun h => h.2⟩
    · refine Ev.neg (by simpa using c) (Ev.ret' ?_)
      symm; rw [decide_eq_false_iff_not, hd]; exact fun h => c h.1
theorem z6F (x : E) (n : Nat) (hn : n < 128) : Ev (fun k => z1D.f k (hi x) (lo x) (n : Int)) (hasB x n) := by
  unfold z1D.f
  exact Ev.bnd (z2T n hn) (Ev.ret' (hasBits x n hn))
/-- Bits turned about, as far as one has come. -/
def turnN (X : List E) (m j : Nat) : E := sumN (fun i => pick (hasB (X.getD i 0) j) (bitE i)) m
def turnL (X : List E) (n : Nat) : List E := tabL n (turnN X X.length)
theorem turn_l1 (n : Nat) (hn : n ≤ 128) (f : Nat → E) (z : E) (i : Nat) (hi128 : i < 128) (XS : List S37) (m : Int) {R : List S37 × Int}
    (h : Ev (fun k => zD.l0 k (n : Int) ((tabL n (fun q => f q + pick (hasB z q) (bitE i))).map toS) XS m (wrap64 ((i : Int) + 1))) R) :
    ∀ (d j : Nat), j + d = n → Ev (fun k => zD.l1 k (n : Int) ((tabL n (bitAdd f z (bitE i) j)).map toS) (i : Int) XS m (i : Int) (n : Int) (j : Int) (hi z) (lo z)) R := by
  intro d
  induction d with
  | zero =>
    intro j hj
    have : j = n := by omega
    subst this
    refine Ev.step (fun k => by rw [zD.l1]) (Ev.neg (Int.lt_irrefl _) ?_)
    rw [z1G _ (fun q hq => z4K f z (bitE i) j q hq)]
    exact h
  | succ d ih =>
    intro j hj
    have hj' : j < n := by omega
    have hih := ih (j + 1) (by omega)
    have hg : (tabL n (bitAdd f z (bitE i) j)).getD j 0 = f j := by rw [z1P _ _ j hj', z3l]
    have c3 : (j : Int) < (((tabL n (bitAdd f z (bitE i) j)).map toS).length : Int) := by rw [List.length_map, z15]; omega
    refine Ev.step (fun k => by rw [zD.l1]) (Ev.pos (by omega) (Ev.bnd (z6F z j (by omega)) ?_))
    cases c : hasB z j with
    | true =>
      refine Ev.pos rfl (Ev.pos (Int.natCast_nonneg _) (Ev.pos c3 (Ev.bnd (z2T i hi128) ?_)))
      simp only [rdS, hg, z2L, z2M]
      refine Ev.bnd0 (z5d _ _) ?_
      have e : ((tabL n (bitAdd f z (bitE i) j)).map toS).set (j : Int).toNat (⟨hi (f j + bitE i), lo (f j + bitE i)⟩ : S37) = (tabL n (bitAdd f z (bitE i) (j + 1))).map toS := by
        rw [Int.toNat_natCast, z5A, map_set]
        have hn2 := z39 f z (bitE i) j
        rw [c, z1I] at hn2
        rw [← hn2, z3w _ _ _ j hj' (fun q _ hne => z2O f z (bitE i) j q hne)]
      simp only [e, z1M hj' (show n ≤ 4611686018427387904 by omega)]
      exact hih
    | false =>
      refine Ev.neg Bool.false_ne_true ?_
      have e : tabL n (bitAdd f z (bitE i) (j + 1)) = tabL n (bitAdd f z (bitE i) j) := by
        apply z1G
        intro q _
        by_cases cq : q = j
        · subst cq; rw [z39, c, z1p, add_zero, z3l]
        · exact z2O f z (bitE i) j q cq
      rw [z1M hj' (by omega), ← e]; exact hih
theorem turn_l0 (X : List E) (hX : X.length ≤ 128) (n : Nat) (hn : n ≤ 128) : ∀ (d i : Nat), i + d = X.length →
    Ev (fun k => zD.l0 k (n : Int) ((tabL n (turnN X i)).map toS) (X.map toS) (X.length : Int) (i : Int)) ((turnL X n).map toS, 0) := by
  intro d
  induction d with
  | zero =>
    intro i hid
    have : i = X.length := by omega
    subst this
    refine Ev.step (fun k => by rw [zD.l0]) ?_
    exact Ev.neg (Int.lt_irrefl _) (Ev.ret _)
  | succ d ih =>
    intro i hid
    have hi' : i < X.length := by omega
    have hih := ih (i + 1) (by omega)
    have c3 : (i : Int) < ((X.map toS).length : Int) := by rw [List.length_map]; omega
    refine Ev.step (fun k => by rw [zD.l0]) (Ev.pos (by omega) (Ev.pos (Int.natCast_nonneg _) (Ev.pos c3 ?_)))
    simp only [rdS, z2L, z2M]
    have e0 : tabL n (turnN X i) = tabL n (bitAdd (turnN X i) (X.getD i 0) (bitE i) 0) := z1G _ (fun q _ => (z45 _ _ _ q).symm)
    rw [e0]
    refine turn_l1 n hn (turnN X i) (X.getD i 0) i (by omega) _ _ ?_ n 0 (Nat.zero_add _)
    rw [z1M hi' (by omega)]
    have e1 : tabL n (fun q => turnN X i q + pick (hasB (X.getD i 0) q) (bitE i)) = tabL n (turnN X (i + 1)) := z1G _ (fun q _ => by
      show _ = sumN _ (i + 1)
      rw [sumN]; rfl)
    rw [e1]
    exact hih
theorem Turn_ev (X : List E) (hX : X.length ≤ 128) (n : Nat) (hn : n ≤ 128) (hin : InN n X) : Ev (fun k => zD.f k (X.map toS) (n : Int)) ((turnL X n).map toS, 0) := by
  unfold zD.f
  rw [List.length_map]
  refine Ev.neg (by omega) (Ev.neg (by omega) ?_)
  rw [decide_eq_false (show ¬ ((n : Int) > 128) by omega)]
  refine Ev.step (fun k => by rw [zD.j0]) (Ev.neg (by decide) (Ev.bnd (z5C n (by omega) X) ?_))
  refine Ev.pos (decide_eq_true hin) ?_
  refine Ev.pos (Int.natCast_nonneg _) ?_
  refine Ev.pos (show ((n : Nat) : Int).toNat ≤ 17592186044416 by rw [Int.toNat_natCast]; omega) ?_
  rw [List.length_map, Int.toNat_natCast, z3V, z2D]
  have e0 : tabL n (fun _ => (0 : E)) = tabL n (turnN X 0) := rfl
  rw [e0]
  exact turn_l0 X hX n hn X.length 0 (Nat.zero_add _)
end Go.Proofs.Ytklkmflhnljbdaa.Sp
/- Are all of a level? as layer 15 asks. Own text. -/
namespace Go.Proofs.Ytklkmflhnljbdaa.Sp
open Go.RowKit Go.Proofs.YtklkmflhnljbdaaW.PrintWords Go.Proofs.YtklkmflhnljbdaaW.PrintMore Go.Proofs.Ytklkmflhnljbdaa.P Go.Proofs.Ytklkmflhnljbdaa.Ar Go.Proofs.Ytklkmflhnljbdaa.Tw
set_option linter.unusedVariables false
set_option linter.unusedSimpArgs false
theorem z4M (L : Int) : ∀ (X : List E), Ev (fun k => z1w.f k L (X.map toS)) (decide (AllS L X))
  | [] => by refine Ev.ret' ?_; symm; rw [decide_eq_true_eq]; intro x hx; cases hx
  | x :: xs => by
    show Ev (fun k => (zJ.f k L (toS x).f0 (toS x).f1).bind fun b => if b = true then z1w.all k L (xs.map toS) else some false) _
    refine Ev.bnd (z4z L x) ?_
    have hd : AllS L (x :: xs) ↔ OfS L x ∧ AllS L xs := List.forall_mem_cons
    by_cases c : OfS L x
    · refine Ev.pos (decide_eq_true c) ((z4M L xs).eqn ?_)
      rw [decide_eq_decide, hd]; exact ⟨fun h => ⟨c, h⟩, fun h => h.2⟩
    · refine Ev.neg (by simpa using c) (Ev.ret' ?_)
      symm; rw [decide_eq_false_iff_not, hd]; exact fun h => c h.1
end Go.Proofs.Ytklkmflhnljbdaa.Sp
/- The weights of all corners, as the program doubles them. Own text. -/
namespace Go.Proofs.Ytklkmflhnljbdaa.Sp
open Go.RowKit Go.Proofs.YtklkmflhnljbdaaW.PrintWords Go.Proofs.YtklkmflhnljbdaaW.PrintMore Go.Proofs.Ytklkmflhnljbdaa.P Go.Proofs.Ytklkmflhnljbdaa.Ar Go.Proofs.Ytklkmflhnljbdaa.Tw
set_option linter.unusedVariables false
def weightsL (P : List E) : List E := tabL (2 ^ P.length) (weight P)
theorem z5R (m n : Nat) (f g : Nat → E) : tabL m f ++ tabL n g = tabL (m + n) (fun i => if i < m then f i else g (i - m)) := by
  apply z3m
  · rw [List.length_append, z15, z15, z15]
  · intro i hi
    rw [List.length_append, z15, z15] at hi
    rw [z1P (m + n) _ i hi, List.getD_eq_getElem?_getD]
    by_cases c : i < m
    · rw [if_pos c, List.getElem?_append_left (by rw [z15]; exact c), ← List.getD_eq_getElem?_getD, z1P m f i c]
    · rw [if_neg c, List.getElem?_append_right (by rw [z15]; omega), z15, ← List.getD_eq_getElem?_getD, z1P n g (i - m) (by omega)]
theorem z59 (P : List E) (p : E) : tabL (2 ^ P.length) (fun i => weight P i + weight P i * p) ++ tabL (2 ^ P.length) (fun i => weight P i * p) = weightsL (P ++ [p]) := by
  unfold weightsL
  rw [z5R, List.length_append, List.length_singleton, Nat.pow_succ, Nat.mul_two]
  apply z1G
  intro i hi
  by_cases c : i < 2 ^ P.length
  · rw [if_pos c, z3G p P i c, mul_add, mul_one]
  · rw [if_neg c]
    have := z4v p P (i - 2 ^ P.length) (by omega)
    rw [show 2 ^ P.length + (i - 2 ^ P.length) = i by omega] at this
    exact this.symm
theorem pickd_at (i : Nat) (y : E) : pick (decide (i < i)) y = 0 := by rw [decide_eq_false (Nat.lt_irrefl i), z1p]
theorem z4h (i : Nat) (y : E) : pick (decide (i < i + 1)) y = y := by rw [decide_eq_true (Nat.lt_succ_self i), z1I]
theorem z4O (i k : Nat) (y : E) (h : k ≠ i) : pick (decide (k < i + 1)) y = pick (decide (k < i)) y := by
  have : decide (k < i + 1) = decide (k < i) := by rw [decide_eq_decide]; omega
  rw [this]
theorem z6f (n k : Nat) (y : E) (h : k < n) : pick (decide (k < n)) y = y := by rw [decide_eq_true h, z1I]
theorem z4P (k : Nat) (y : E) : pick (decide (k < 0)) y = 0 := by rw [decide_eq_false (Nat.not_lt_zero k), z1p]
theorem z6I {l : Nat} (hl : l ≤ 7) (n : Nat) (hn : n ≤ 1000000) (w : Nat → E) (hw : ∀ i, i < n → InL l (w i)) (x : E) (hx : InL l x) (PS : List S37) (m j : Int) {R : List S37}
    (h : Ev (fun q => zm.l0 q (l : Int) ((tabL n (fun i => w i + w i * x) ++ tabL n (fun i => w i * x)).map toS) PS m (wrap64 (j + 1))) R) :
    ∀ (d i : Nat), i + d = n → Ev (fun q => zm.l1 q (l : Int) ((tabL n (fun k => w k + pick (decide (k < i)) (w k * x))).map toS) ((tabL n (fun k => pick (decide (k < i)) (w k * x))).map toS) PS m j (n : Int) (i : Int) (hi x) (lo x)) R := by
  intro d
  induction d with
  | zero =>
    intro i hid
    have : i = n := by omega
    subst this
    refine Ev.step (fun q => by rw [zm.l1]) (Ev.neg (Int.lt_irrefl _) ?_)
    have e1 : tabL i (fun k => w k + pick (decide (k < i)) (w k * x)) = tabL i (fun k => w k + w k * x) := z1G _ (fun k hk => by rw [z6f i k _ hk])
    have e2 : tabL i (fun k => pick (decide (k < i)) (w k * x)) = tabL i (fun k => w k * x) := z1G _ (fun k hk => z6f i k _ hk)
    rw [e1, e2]
    refine Ev.pos (by rw [List.length_map, List.length_map, z15, z15]; omega) ?_
    rw [← List.map_append]
    exact h
  | succ d ih =>
    intro i hid
    have hi' : i < n := by omega
    have hih := ih (i + 1) (by omega)
    have g1 : (tabL n (fun k => w k + pick (decide (k < i)) (w k * x))).getD i 0 = w i := by rw [z1P _ _ i hi', pickd_at, add_zero]
    have c3 : (i : Int) < (((tabL n (fun k => w k + pick (decide (k < i)) (w k * x))).map toS).length : Int) := by rw [List.length_map, z15]; omega
    have c4 : (i : Int) < (((tabL n (fun k => pick (decide (k < i)) (w k * x))).map toS).length : Int) := by rw [List.length_map, z15]; omega
    have eu : ((tabL n (fun k => pick (decide (k < i)) (w k * x))).map toS).set (i : Int).toNat (⟨hi (w i * x), lo (w i * x)⟩ : S37) = (tabL n (fun k => pick (decide (k < i + 1)) (w k * x))).map toS := by
      rw [Int.toNat_natCast, z5A, map_set]
      have hn2 := z4h i (w i * x)
      conv => lhs; rw [← hn2]
      rw [z3w n _ (fun k => pick (decide (k < i + 1)) (w k * x)) i hi' (fun k _ hne => z4O i k _ hne)]
    have eo : ((tabL n (fun k => w k + pick (decide (k < i)) (w k * x))).map toS).set (i : Int).toNat (⟨hi (w i + w i * x), lo (w i + w i * x)⟩ : S37) = (tabL n (fun k => w k + pick (decide (k < i + 1)) (w k * x))).map toS := by
      rw [Int.toNat_natCast, z5A, map_set]
      have hn2 := z4h i (w i * x)
      conv => lhs; rw [← hn2]
      rw [z3w n _ (fun k => w k + pick (decide (k < i + 1)) (w k * x)) i hi' (fun k _ hne => by show w k + _ = w k + _; rw [z4O i k _ hne])]
    have g2 : (tabL n (fun k => pick (decide (k < i + 1)) (w k * x))).getD i 0 = w i * x := by rw [z1P _ _ i hi', z4h]
    refine Ev.step (fun q => by rw [zm.l1]) (Ev.pos (by omega) (Ev.pos (Int.natCast_nonneg _) (Ev.pos c3 ?_)))
    simp only [rdS, g1, z2L, z2M]
    refine Ev.bnd (z5V hl (hw i hi') hx) (Ev.pos c4 (Ev.bnd0 rfl ?_))
    simp only [eu, rdS, g2, z2L, z2M]
    refine Ev.bnd0 (z5d _ _) ?_
    simp only [eo, z1M hi' (show n ≤ 4611686018427387904 by omega)]
    exact hih
theorem z5L {l : Nat} {P : List E} (h : AllS (l : Int) P) : ∀ p ∈ P, InL l p := fun p hp => z64 (h p hp)
theorem z6H {l : Nat} (hl : l ≤ 7) (P : List E) (hP : AllS (l : Int) P) (hPl : P.length ≤ 16) : ∀ (d j : Nat), j + d = P.length →
    Ev (fun q => zm.l0 q (l : Int) ((weightsL (P.take j)).map toS) (P.map toS) (P.length : Int) (j : Int)) ((weightsL P).map toS) := by
  intro d
  induction d with
  | zero =>
    intro j hj
    have : j = P.length := by omega
    subst this
    rw [List.take_length]
    exact Ev.step (fun q => by rw [zm.l0]) (Ev.neg (Int.lt_irrefl _) (Ev.ret _))
  | succ d ih =>
    intro j hj
    have hj' : j < P.length := by omega
    have hih := ih (j + 1) (by omega)
    have htl : (P.take j).length = j := by rw [List.length_take]; omega
    have hp16 : 2 ^ j ≤ 2 ^ 16 := Nat.pow_le_pow_right (by decide) (by omega)
    have hwl : (weightsL (P.take j)).length = 2 ^ j := by unfold weightsL; rw [z15, htl]
    have hg : P.getD j 0 = P[j] := by rw [List.getD_eq_getElem?_getD, List.getElem?_eq_getElem hj']; rfl
    rw [List.take_succ_eq_append_getElem hj', ← hg, ← z59, htl] at hih
    refine Ev.step (fun q => by rw [zm.l0]) (Ev.pos (by omega) (Ev.pos (Int.natCast_nonneg _) (Ev.pos (by rw [List.length_map]; omega) ?_)))
    rw [List.length_map, hwl]
    refine Ev.pos (Int.natCast_nonneg _) (Ev.pos (by rw [Int.toNat_natCast]; omega) ?_)
    simp only [rdS, z2L, z2M]
    have e0 : weightsL (P.take j) = tabL (2 ^ j) (fun k => weight (P.take j) k + pick (decide (k < 0)) (weight (P.take j) k * P.getD j 0)) := by
      unfold weightsL; rw [htl]
      exact z1G _ (fun k _ => by rw [z4P, add_zero])
    have e1 : List.replicate ((2 ^ j : Nat) : Int).toNat z37 = (tabL (2 ^ j) (fun k => pick (decide (k < 0)) (weight (P.take j) k * P.getD j 0))).map toS := by
      rw [Int.toNat_natCast, z3V, z2D]
      exact congrArg (List.map toS) (z1G _ (fun k _ => (z4P _ _).symm))
    rw [e0, e1]
    refine z6I hl (2 ^ j) (by omega) (weight (P.take j)) (fun i _ => z36 hl _ i (fun p hp => z5L hP p (List.mem_of_mem_take hp))) (P.getD j 0) (z2t hP j) _ _ _ ?_ (2 ^ j) 0 (Nat.zero_add _)
    rw [z1M hj' (show P.length ≤ 4611686018427387904 by omega)]
    exact hih
/-- The weights, or nothing. -/
def weightsO (L : Int) (P : List E) : List E := if LvS L ∧ P.length ≤ 16 ∧ AllS L P then weightsL P else []
theorem z3A (L : Int) (P : List E) : Ev (fun q => zm.f q L (P.map toS)) ((weightsO L P).map toS) := by
  have hT : ¬ (LvS L ∧ P.length ≤ 16 ∧ AllS L P) → Ev (fun q => zm.j0 q L (P.map toS) true) ((weightsO L P).map toS) := by
    intro h
    have e : weightsO L P = [] := if_neg h
    rw [e]
    refine Ev.step (fun q => by rw [zm.j0]) ?_
    exact Ev.pos rfl (Ev.ret _)
  unfold zm.f
  rw [List.length_map]
  by_cases hL : LvS L
  rotate_left
  · exact Ev.bnd (z3Y hL) (Ev.pos rfl (hT (fun h => hL h.1)))
  obtain ⟨v, hv, hw⟩ := z5a hL
  refine Ev.bnd hw (Ev.neg hv ?_)
  by_cases hl : (P.length : Int) > 16
  · exact Ev.pos hl (hT (fun h => by have := h.2.1; omega))
  refine Ev.neg hl (Ev.bnd (z4M L P) ?_)
  by_cases hA : AllS L P
  rotate_left
  · rw [decide_eq_false hA]; exact hT (fun h => hA h.2.2)
  rw [decide_eq_true hA]
  have e : weightsO L P = weightsL P := if_pos ⟨hL, by omega, hA⟩
  rw [e]
  obtain ⟨l, rfl⟩ := Int.eq_ofNat_of_zero_le hL.1
  refine Ev.step (fun q => by rw [zm.j0]) (Ev.neg (by decide) (Ev.bnd0 z6M ?_))
  rw [List.length_map]
  have := z6H (by have := hL.2; omega) P hA (by omega) P.length 0 (Nat.zero_add _)
  have e0 : (weightsL (P.take 0)).map toS = [(⟨hi 1, lo 1⟩ : S37)] := rfl
  rw [e0] at this
  exact this
end Go.Proofs.Ytklkmflhnljbdaa.Sp
/- The program's sums of products. Own text. -/
namespace Go.Proofs.Ytklkmflhnljbdaa.Sp
open Go.RowKit Go.Proofs.YtklkmflhnljbdaaW.PrintWords Go.Proofs.YtklkmflhnljbdaaW.PrintMore Go.Proofs.Ytklkmflhnljbdaa.P Go.Proofs.Ytklkmflhnljbdaa.Ar Go.Proofs.Ytklkmflhnljbdaa.Tw
set_option linter.unusedVariables false
theorem dot_l0 {l : Nat} (hl : l ≤ 7) (X Y : List E) (hX : AllS (l : Int) X) (hY : AllS (l : Int) Y) (hlen : X.length = Y.length) (hn : X.length ≤ 1000000) : ∀ (d i : Nat), i + d = X.length →
    Ev (fun k => zL.l0 k (l : Int) (X.map toS) (Y.map toS) (X.length : Int) (i : Int) (hi (sumN (fun j => X.getD j 0 * Y.getD j 0) i)) (lo (sumN (fun j => X.getD j 0 * Y.getD j 0) i))) (hi (sumN (fun j => X.getD j 0 * Y.getD j 0) X.length), lo (sumN (fun j => X.getD j 0 * Y.getD j 0) X.length)) := by
  intro d
  induction d with
  | zero =>
    intro i hid
    have : i = X.length := by omega
    subst this
    refine Ev.step (fun k => by rw [zL.l0]) ?_
    exact Ev.neg (Int.lt_irrefl _) (Ev.ret _)
  | succ d ih =>
    intro i hid
    have hi' : i < X.length := by omega
    have hih := ih (i + 1) (by omega)
    have hx : OfS (l : Int) (X.getD i 0) := by
      have : X.getD i 0 = X[i] := by rw [List.getD_eq_getElem?_getD, List.getElem?_eq_getElem hi']; rfl
      rw [this]; exact hX _ (List.getElem_mem hi')
    have hy : OfS (l : Int) (Y.getD i 0) := by
      have h2 : i < Y.length := by omega
      have : Y.getD i 0 = Y[i] := by rw [List.getD_eq_getElem?_getD, List.getElem?_eq_getElem h2]; rfl
      rw [this]; exact hY _ (List.getElem_mem h2)
    have c1 : (i : Int) < ((X.map toS).length : Int) := by rw [List.length_map]; omega
    have c2 : (i : Int) < ((Y.map toS).length : Int) := by rw [List.length_map]; omega
    have hs : sumN (fun j => X.getD j 0 * Y.getD j 0) (i + 1) = sumN (fun j => X.getD j 0 * Y.getD j 0) i + X.getD i 0 * Y.getD i 0 := by rw [sumN]
    rw [hs] at hih
    refine Ev.step (fun k => by rw [zL.l0]) (Ev.pos (by omega) (Ev.pos (Int.natCast_nonneg _) (Ev.pos c1 ?_)))
    simp only [rdS, z2L, z2M]
    refine Ev.bnd (z4z (l : Int) _) (Ev.pos (decide_eq_true hx) (Ev.pos c2 (Ev.bnd (z4z (l : Int) _) ?_)))
    rw [decide_eq_true hy]
    refine Ev.step (fun k => by rw [zL.j1]) (Ev.neg (by decide) (Ev.pos (Int.natCast_nonneg _) (Ev.pos c1 (Ev.pos c2 ?_))))
    simp only [rdS, z2L, z2M]
    refine Ev.bnd (z5V hl (z2t hX i) (z2t hY i)) (Ev.bnd0 (z5d _ _) ?_)
    simp only [z1M hi' (show X.length ≤ 4611686018427387904 by omega)]
    exact hih
theorem Dot_ev {l : Nat} (hl : l ≤ 7) (X Y : List E) (hX : AllS (l : Int) X) (hY : AllS (l : Int) Y) (hlen : X.length = Y.length) (hn : X.length ≤ 1000000) :
    Ev (fun k => zL.f k (l : Int) (X.map toS) (Y.map toS)) (hi (sumN (fun j => X.getD j 0 * Y.getD j 0) X.length), lo (sumN (fun j => X.getD j 0 * Y.getD j 0) X.length)) := by
  unfold zL.f
  rw [List.length_map, List.length_map]
  refine Ev.pos (by omega) ?_
  have := dot_l0 hl X Y hX hY hlen hn X.length 0 (Nat.zero_add _)
  have e : sumN (fun j => X.getD j 0 * Y.getD j 0) 0 = 0 := rfl
  rw [e, z2Z, z30] at this
  exact this
end Go.Proofs.Ytklkmflhnljbdaa.Sp
namespace Go.Proofs.Ytklkmflhnljbdaa.P
open Go.RowKit Go.Proofs.YtklkmflhnljbdaaW.PrintWords Go.Proofs.YtklkmflhnljbdaaW.PrintLast Go.Proofs.YtklkmflhnljbdaaW.PrintMore
attribute [local go_sem] z17 z19 z1m z1n zU zV z18 z1a   -- for this text's walks alone
set_option linter.unusedVariables false
set_option linter.unusedSimpArgs false
def z1J.f  : Option (Int × Int):=some (0,1)
set_option maxHeartbeats 8000000 in
set_option maxRecDepth 100000 in
theorem z1J.calls  (r1 : Int) (r2 : Int) (w : World) (h : z1J.f  = some (r1,r2)) :
 Calls Try.prog 98 #[] w fun e w'=>e = .returned (.agg #[.int .u64 r1,.int .u64 r2]) ∧ Below w.heap.size w w':=by
 have hu48:=Try.underlying48
 have HB:=z4.mk (Below.refl w.heap.size w)
 have H : (some (0,1)) = some (r1,r2):=h
 clear h
 simp only [Option.some.injEq,Prod.mk.injEq] at H
 obtain ⟨rfl,rfl⟩:=H
 go_enter Try.func98,Try.ntmps98
 go_wp2_with (first|((with_reducible refine zr (N:=0) rfl ?_);refine zy ?hg (N:=0) ?hd (cs:=#[.int .u64 0,.int .u64 0]) (t:=48) ?hr ?_;(case hd=>rfl);(case hg=>rfl);(case hr=>first|(go_simp;done)|(go_simp;rfl));intro gb101 hg w1 hbox hb;have n0_:=z4.mk (z9 zz45 hb);have n1_:=z4.mk (hbox);have n2_:=z4.mk ((by rw [hg];exact (ze zz45) : w.heap.size ≤ gb101));have n3_:=z4.mk ((by rw [hg];exact (ze zz45) : w.heap.size ≤ gb101));clear HB;have HB:=n0_;have BK101:=n1_;have GW101:=n2_;have GE101:=n3_;clear n0_ n1_ n2_ n3_;clear hb hbox hg;have hcz2_0 : w1.cell? ⟨gb101,0,none⟩ = some (.int .u64 0):=(zf BK101.out 0).trans rfl;have hcz2_1 : w1.cell? ⟨gb101,1,none⟩ = some (.int .u64 0):=(zf BK101.out 1).trans rfl;have hfz2_0:=za BK101.out 0;have hfz2_1:=za BK101.out 1))
 refine bodyPost_ret (results_cell_row rfl _ _ gb101 48 #[.int .u64 0,.int .u64 1] (0,0) _ rfl zz7 Try.underlying48 rfl zz84) rfl ?_
 exact ⟨by first|rfl|(simp [zi,zj] <;> rfl)|(simp [*,zi,zj] <;> rfl),by repeat (first|(with_reducible first|exact HB.out|apply zg|apply z6|apply zc|refine zd ?_ GE101.out)|exact HB.out)⟩
end Go.Proofs.Ytklkmflhnljbdaa.P
namespace Go.Proofs.Ytklkmflhnljbdaa.P
open Go.RowKit Go.Proofs.YtklkmflhnljbdaaW.PrintWords Go.Proofs.YtklkmflhnljbdaaW.PrintLast Go.Proofs.YtklkmflhnljbdaaW.PrintMore
attribute [local go_sem] z17 z19 z1m z1n zU zV z18 z1a   -- for this text's walks alone
set_option linter.unusedVariables false
set_option linter.unusedSimpArgs false
def zo.l0 : Nat → List (S48) → Int → Int → Int → Int → Option (Int × Int)
 | 0,_,_,_,_,_=>none
 | k + 1,x0,x6,x7,x105000,x105001=>if x7 < (x0.length : Int) then (if (Int.tmod x6 2) = 1 then (if 0 ≤ x7 then ((zk.f k x105000 x105001 ((z1A x0 x7).f0) ((z1A x0 x7).f1)).bind fun bt106=>(zo.l0 k x0 (wrap64 (Int.tdiv x6 2)) (wrap64 (x7 + 1)) bt106.1 bt106.2)) else (none)) else ((z1J.f).bind fun bt108=>(if 0 ≤ x7 then ((z1u.f bt108.1 bt108.2 ((z1A x0 x7).f0) ((z1A x0 x7).f1)).bind fun bt111=>((zk.f k x105000 x105001 bt111.1 bt111.2).bind fun bt113=>(zo.l0 k x0 (wrap64 (Int.tdiv x6 2)) (wrap64 (x7 + 1)) bt113.1 bt113.2))) else (none)))) else (some (x105000,x105001))
def zo.f (k : Nat) (l0 : List (S48)) (a1 : Int) : Option (Int × Int):=(z1J.f).bind fun bt102=>(zo.l0 k l0 a1 0 bt102.1 bt102.2)
theorem zo.z1b : ∀ k,(∀ y0 y1 y2 y3 y4,LeO (zo.l0 k y0 y1 y2 y3 y4) (zo.l0 (k + 1) y0 y1 y2 y3 y4))
 | 0=>fun _ _ _ _ _ r h=>by simp [zo.l0] at h
 | k + 1=>by
  have ih0:=zo.z1b k
  · intro y0 y1 y2 y3 y4
    unfold zo.l0
    repeat' first
    | (with_reducible exact ih0 _ _ _ _ _)
    | (with_reducible exact zk.mono _ _ _ _ _)
    | (with_reducible exact LeO.refl _)
    | (with_reducible exact LeO.none _)
    | (with_reducible refine LeO.ite ?_ ?_)
    | (with_reducible refine LeO.bind ?_ (fun _=>?_))
    | exact ih0 _ _ _ _ _
    | exact zk.mono _ _ _ _ _
    | exact LeO.none _
    | refine LeO.ite ?_ ?_
    | refine LeO.bind ?_ (fun _=>?_)
theorem zo.mono : ∀ a0 a1 k,LeO (zo.f k a0 a1) (zo.f (k + 1) a0 a1):=by
 intro a0 a1 k
 have ih0:=zo.z1b k
 unfold zo.f
 repeat' first
  | (with_reducible exact ih0 _ _ _ _ _)
  | (with_reducible exact zk.mono _ _ _ _ _)
  | (with_reducible exact LeO.refl _)
  | (with_reducible exact LeO.none _)
  | (with_reducible refine LeO.ite ?_ ?_)
  | (with_reducible refine LeO.bind ?_ (fun _=>?_))
  | exact ih0 _ _ _ _ _
  | exact zk.mono _ _ _ _ _
  | exact LeO.none _
  | refine LeO.ite ?_ ?_
  | refine LeO.bind ?_ (fun _=>?_)
def zo.T8 : Bool × List (List Nat × List Nat):=(true,[([],[]),([],[]),([],[]),([],[]),([2,3],[2,3]),([4],[4]),([1,5,1],[1,5]),([0,6,6],[0,6]),([7,7,0,1,2,3,4,5,6,7],[7])])
def zo.B8 : List Nat:=[0,0,0,0,12,28,62,127,255]
theorem zo.tab8 : rtab .any (opsOf Try.f66 8) = zo.T8:=by kernel_rfl
theorem zo.bits8 : waitsOk zo.T8.2 zo.B8 = true:=by kernel_rfl
set_option maxHeartbeats 8000000 in
set_option maxRecDepth 100000 in
theorem zo.calls (k : Nat) (A0 : Option Addr) (c0 : Nat) (l0 : List (S48)) (a1 : Int) (r1 : Int) (r2 : Int) (w : World) (hr0 : Kd.C k48 w A0 l0.length l0) (hc0 : l0.length ≤ c0) (h : zo.f k l0 a1 = some (r1,r2)) :
 Calls Try.prog 66 #[.slice A0 l0.length c0,.int .i64 a1] w fun e w'=>e = .returned (.agg #[.int .u64 r1,.int .u64 r2]) ∧ Below w.heap.size w w':=by
 have hu48:=Try.underlying48
 have HR0:=z4.mk hr0
 have HC0:=z4.mk hc0
 clear hr0 hc0
 have HB:=z4.mk (Below.refl w.heap.size w)
 have H : ((z1J.f).bind fun bt102=>(zo.l0 k l0 a1 0 bt102.1 bt102.2)) = some (r1,r2):=h
 clear h
 replace H:=Option.bind_eq_some_iff.mp H
 obtain ⟨⟨t102,t103⟩,A30,H⟩:=H
 replace H : (zo.l0 k l0 a1 0 t102 t103) = some (r1,r2):=H
 have A3:=z4.mk A30
 clear A30
 have H':=z4.mk H
 clear H
 go_enter Try.func66,Try.ntmps66
 go_wp2_with (first|((with_reducible refine zr (N:=4) rfl ?_);refine zy ?hg (N:=4) ?hd (cs:=#[.int .u64 0,.int .u64 0]) (t:=48) ?hr ?_;(case hd=>rfl);(case hg=>rfl);(case hr=>first|(go_simp;done)|(go_simp;rfl));intro gb101 hg w4 hbox hb;have n0_:=z4.mk (z9 zz45 hb);have n1_:=z4.mk (hbox);have n2_:=z4.mk ((by rw [hg];exact (ze zz45) : w.heap.size ≤ gb101));have n3_:=z4.mk ((by rw [hg];exact (ze zz45) : w.heap.size ≤ gb101));clear HB;have HB:=n0_;have BK101:=n1_;have GW101:=n2_;have GE101:=n3_;clear n0_ n1_ n2_ n3_;clear hb hbox hg)|((with_reducible refine zl (f:=98) rfl ?_);refine goesL_ (some 8) rfl rfl Try.func98 zz84 rfl #[] rfl zz44 ?_;(with_reducible refine (z1J.calls  t102 t103 _ A3.out).mono ?_);rintro e w5 ⟨rfl,hb⟩;refine ⟨_,rfl,?_⟩;have n0_:=z4.mk (zh (g:=gb101) (o:=.cells #[.int .u64 0,.int .u64 0] 48 (0,0)) zz46 hb);have n1_:=z4.mk (z9 zz40 hb);clear BK101;clear HB;have BK101:=n0_;have HB:=n1_;clear n0_ n1_;(try clear hb);(try clear hb2);(try clear hk);(try clear hi))|((with_reducible refine zr (N:=5) rfl ?_);refine zy ?hg (N:=5) ?hd (cs:=#[.int .u64 0,.int .u64 0]) (t:=48) ?hr ?_;(case hd=>rfl);(case hg=>rfl);(case hr=>first|(go_simp;done)|(go_simp;rfl));intro gb104 hg w6 hbox hb;have n0_:=z4.mk (zh (g:=gb101) (o:=.cells #[.int .u64 0,.int .u64 0] 48 (0,0)) zz46 hb);have n1_:=z4.mk (z9 zz40 hb);have n2_:=z4.mk (hbox);have n3_:=z4.mk ((by rw [hg];exact (ze zz40) : w.heap.size ≤ gb104));have n4_:=z4.mk ((by rw [hg];exact (ze zz40) : w.heap.size ≤ gb104));have n5_:=z4.mk ((by rw [hg];exact Nat.ne_of_lt (zO (g:=gb101) (o:=.cells #[.int .u64 0,.int .u64 0] 48 (0,0)) zz46) : gb101 ≠ gb104));have n6_:=z4.mk ((by rw [hg];exact Nat.ne_of_gt (zO (g:=gb101) (o:=.cells #[.int .u64 0,.int .u64 0] 48 (0,0)) zz46) : gb104 ≠ gb101));clear BK101;clear HB;have BK101:=n0_;have HB:=n1_;have BK104:=n2_;have GW104:=n3_;have GE104:=n4_;have NB101_104:=n5_;have NB104_101:=n6_;clear n0_ n1_ n2_ n3_ n4_ n5_ n6_;clear hb hbox hg;have hnb7:=NB104_101.out;have hnc7:=NB101_104.out;have hcz8_0 : w6.cell? ⟨gb104,0,none⟩ = some (.int .u64 0):=(zf BK104.out 0).trans rfl;have hcz8_1 : w6.cell? ⟨gb104,1,none⟩ = some (.int .u64 0):=(zf BK104.out 1).trans rfl;have hfz8_0:=za BK104.out 0;have hfz8_1:=za BK104.out 1))
 go_loopg [6,7] k (fun kq v6 v7 w'=>∃ (x6_1 : Int) (x7_1 : Int) (x105000_1 : Int) (x105001_1 : Int),v6 = .int .i64 x6_1 ∧ v7 = .int .i64 x7_1 ∧ z4 (zo.l0 kq l0 x6_1 x7_1 x105000_1 x105001_1 = some (r1,r2)) ∧ z4 (kq ≤ k) ∧ z4 (w'.heap[gb101]? = some (.cells #[.int .u64 0,.int .u64 0] 48 (0,0))) ∧ z4 (w'.heap[gb104]? = some (.cells #[.int .u64 x105000_1,.int .u64 x105001_1] 48 (0,0))) ∧ z4 (Below w.heap.size w w'))
 case atStart=>exact ⟨(a1),(0),(t102),(t103),zz81,zz81,H',⟨Nat.le_refl _⟩,⟨by (with_reducible repeat (first|refine z8 ?_ _|refine zb ?_|refine z7 ?_ _));refine zW ?_ NB101_104.out _;(with_reducible repeat (first|refine z8 ?_ _|refine zb ?_|refine z7 ?_ _));refine zW ?_ NB101_104.out _;(with_reducible repeat (first|refine z8 ?_ _|refine zb ?_|refine z7 ?_ _));exact BK101.out⟩,⟨by (with_reducible repeat (first|refine z8 ?_ _|refine zb ?_|refine z7 ?_ _));refine zX (cs:=#[.int .u64 t102,.int .u64 0]) ?_ 1 _ rfl;(with_reducible repeat (first|refine z8 ?_ _|refine zb ?_|refine z7 ?_ _));refine zX (cs:=#[.int .u64 0,.int .u64 0]) ?_ 0 _ rfl;(with_reducible repeat (first|refine z8 ?_ _|refine zb ?_|refine z7 ?_ _));exact BK104.out⟩,⟨by repeat (first|(with_reducible first|exact HB.out|apply zg|apply z6|apply zc|refine zd ?_ GE101.out|refine zd ?_ GE104.out)|exact HB.out)⟩⟩
 case round =>
  clear H'
  (try clear p2);(try clear c6);(try clear c7);(try clear hcz8_0);(try clear hcz8_1);(try clear hfz8_0);(try clear hfz8_1)
  obtain ⟨x6_1,x7_1,x105000_1,x105001_1,rfl,rfl,HA,HK1,BK101,BK104,HB⟩:=hrel
  cases gk with
  | zero=>exact absurd HA.out (by simp [zo.l0])
  | succ k1 =>
   have H:=HA.out
   clear HA
   simp only [zo.l0] at H
   by_cases c9 : x7_1 < (l0.length : Int)
   rotate_left
   · rw [if_neg c9] at H
     have c9b0 : decide (x7_1 < (l0.length : Int)) = false:=decide_eq_false c9
     clear c9
     simp only [Option.some.injEq,Prod.mk.injEq] at H
     obtain ⟨rfl,rfl⟩:=H
     have hnb27:=NB104_101.out
     have hnc27:=NB101_104.out
     have hcz28_0 : wr.cell? ⟨gb104,0,none⟩ = some (.int .u64 x105000_1):=(zf BK104.out 0).trans rfl
     have hcz28_1 : wr.cell? ⟨gb104,1,none⟩ = some (.int .u64 x105001_1):=(zf BK104.out 1).trans rfl
     have hfz28_0:=za BK104.out 0
     have hfz28_1:=za BK104.out 1
     have hcz29_0 : wr.cell? ⟨gb101,0,none⟩ = some (.int .u64 0):=(zf BK101.out 0).trans rfl
     have hcz29_1 : wr.cell? ⟨gb101,1,none⟩ = some (.int .u64 0):=(zf BK101.out 1).trans rfl
     have hfz29_0:=za BK101.out 0
     have hfz29_1:=za BK101.out 1
     go_wp2
     refine bodyPost_ret (results_cell_row rfl _ _ gb101 48 #[.int .u64 x105000_1,.int .u64 x105001_1] (0,0) _ rfl (by (with_reducible repeat (first|refine z8 ?_ _|refine zb ?_|refine z7 ?_ _));refine zX (cs:=#[.int .u64 x105000_1,.int .u64 0]) ?_ 1 _ rfl;(with_reducible repeat (first|refine z8 ?_ _|refine zb ?_|refine z7 ?_ _));refine zX (cs:=#[.int .u64 0,.int .u64 0]) ?_ 0 _ rfl;(with_reducible repeat (first|refine z8 ?_ _|refine zb ?_|refine z7 ?_ _));exact BK101.out) Try.underlying48 rfl zz84) rfl ?_
     exact ⟨by first|rfl|(simp [zi,zj] <;> rfl)|(simp [*,zi,zj] <;> rfl),by repeat (first|(with_reducible first|exact HB.out|apply zg|apply z6|apply zc|refine zd ?_ GE101.out|refine zd ?_ GE104.out)|exact HB.out)⟩
   rw [if_pos c9] at H
   have c9b0 : decide (x7_1 < (l0.length : Int)) = true:=decide_eq_true c9
   clear c9
   by_cases c10 : (Int.tmod x6_1 2) = 1
   · rw [if_pos c10] at H
     have c10b0 : ((Int.tmod x6_1 2) == 1) = true:=beq_iff_eq.mpr c10
     have c10b1 : ((Int.tmod x6_1 2) != 1) = false:=bne_eq_false_iff_eq.mpr c10
     clear c10
     by_cases c11 : 0 ≤ x7_1
     rotate_left
     · rw [if_neg c11] at H
       exact absurd H zz87
     rw [if_pos c11] at H
     have c11b0 : decide (0 ≤ x7_1) = true:=decide_eq_true c11
     clear c11
     replace H:=Option.bind_eq_some_iff.mp H
     obtain ⟨⟨t106,t107⟩,A120,H⟩:=H
     replace H : (zo.l0 k1 l0 (wrap64 (Int.tdiv x6_1 2)) (wrap64 (x7_1 + 1)) t106 t107) = some (r1,r2):=H
     have A12:=z4.mk A120
     clear A120
     have H':=z4.mk H
     clear H
     try go_wp2
     have n0_:=z4.mk (zb BK101.out)
     have n1_:=z4.mk (zb BK104.out)
     have n2_:=z4.mk (zc HB.out)
     clear BK101
     clear BK104
     clear HB
     have BK101:=n0_
     have BK104:=n1_
     have HB:=n2_
     clear n0_ n1_ n2_
     have p105 : 0 ≤ (x7_1 : Int):=of_decide_eq_true zz80
     have q105 : x7_1 < (l0.length : Int):=of_decide_eq_true zz80
     obtain ⟨ad105,e105,hx105_0,hx105_1⟩:=z44 HR0.out x7_1 p105 q105
     have hw105_1:=hx105_1
     have hw105_0:=hx105_0
     cases e105
     replace hx105_0:=(HB.out.cell (World.block_lt_of_cell? w _ hx105_0)).trans hx105_0
     replace hx105_1:=(HB.out.cell (World.block_lt_of_cell? w _ hx105_1)).trans hx105_1
     replace p105:=eq_true p105
     replace q105:=eq_true q105
     refine start_ (n:=7) (S:=fun w'=>w'.cell? ⟨gb104,0,none⟩ = some (.int .u64 x105000_1) ∧ w'.cell? ⟨gb104,1,none⟩ = some (.int .u64 x105001_1) ∧ w'.cell? (ad105.add ((x7_1).toNat * 2)) = some (.int .u64 ((z1A l0 x7_1).f0)) ∧ w'.cell? ⟨(ad105.add ((x7_1).toNat * 2)).block,(ad105.add ((x7_1).toNat * 2)).off + 1,none⟩ = some (.int .u64 ((z1A l0 x7_1).f1))) (ds:=[6]) #[false,false,false,false,false,false,false] zz84 rfl rfl ⟨(zf BK104.out 0).trans rfl,(zf BK104.out 1).trans rfl,((HB.out.cell (World.block_lt_of_cell? w _ hw105_0)).trans hw105_0),((HB.out.cell (World.block_lt_of_cell? w _ hw105_1)).trans hw105_1)⟩ (fun hHeld=>?_)
     generalize wr.drew = w13 at BK101 BK104 HB hx105_0 hx105_1 hHeld ⊢
     refine pure_ (i:=1) (N:=some 20) (v:=?_) (a':=?_) #[false,true,false,false,false,false,false] rfl rfl zz84 (fun _ _ _ h=>h) (Or.inl ⟨by rfl,?_⟩) ?_ ?_
     rotate_left
     · intro w'
       go_simp
       with_reducible rfl
     rotate_left
     · simp only [Act.put,List.setIfInBounds_toArray,List.set_cons_zero,List.set_cons_succ,zY,z16]
       rfl
     refine pure_ (i:=2) (N:=some 21) (v:=?_) (a':=?_) #[false,true,true,false,false,false,false] rfl rfl zz84 (fun _ _ _ h=>h) (Or.inl ⟨by rfl,?_⟩) ?_ ?_
     rotate_left
     · intro w'
       go_simp
       with_reducible rfl
     rotate_left
     · simp only [Act.put,List.setIfInBounds_toArray,List.set_cons_zero,List.set_cons_succ,zY,z16]
       rfl
     refine pure_ (i:=3) (N:=some 22) (v:=?_) (a':=?_) #[false,true,true,true,false,false,false] rfl rfl zz84 (fun _ _ _ h=>h) (Or.inl ⟨by rfl,?_⟩) ?_ ?_
     rotate_left
     · intro w'
       go_simp
       with_reducible rfl
     rotate_left
     · simp only [Act.put,List.setIfInBounds_toArray,List.set_cons_zero,List.set_cons_succ,zY,z16]
       rfl
     refine take_ (i:=0) (N:=some 19) (v:=?_) (a':=?_) #[true,true,true,true,false,false,false] rfl rfl zz84 (fun _ _ _ h=>h) (Or.inl ⟨by rfl,?_⟩) hHeld ?_ ?_
     rotate_left
     · rintro w' ⟨s0,s1,s2,s3⟩
       go_simp
       with_reducible rfl
     rotate_left
     · simp only [Act.put,List.setIfInBounds_toArray,List.set_cons_zero,List.set_cons_succ,zY,z16]
       rfl
     refine take_ (i:=4) (N:=some 23) (v:=?_) (a':=?_) #[true,true,true,true,true,false,false] rfl rfl zz84 (fun _ _ _ h=>h) (Or.inl ⟨by rfl,?_⟩) hHeld ?_ ?_
     rotate_left
     · rintro w' ⟨s0,s1,s2,s3⟩
       go_simp
       with_reducible rfl
     rotate_left
     · simp only [Act.put,List.setIfInBounds_toArray,List.set_cons_zero,List.set_cons_succ,zY,z16]
       rfl
     refine one_ (i:=5) (N:=some 24) #[true,true,true,true,true,true,false] rfl rfl zz84 zz85 (fun K hK=>?_)
     refine goes_ Try.func67 zz84 rfl #[.agg #[.int .u64 x105000_1,.int .u64 x105001_1],.agg #[.int .u64 ((z1A l0 x7_1).f0),.int .u64 ((z1A l0 x7_1).f1)]] zz88 rfl rfl zz44 ?_
     with_reducible refine (zk.calls k1 x105000_1 x105001_1 ((z1A l0 x7_1).f0) ((z1A l0 x7_1).f1) t106 t107 _ A12.out).mono ?_
     rintro e w14 ⟨rfl,hb⟩
     refine ⟨_,rfl,?_⟩
     have n0_:=z4.mk (zh (g:=gb101) (o:=.cells #[.int .u64 0,.int .u64 0] 48 (0,0)) zz46 hb)
     have n1_:=z4.mk (zh (g:=gb104) (o:=.cells #[.int .u64 x105000_1,.int .u64 x105001_1] 48 (0,0)) zz53 hb)
     have n2_:=z4.mk (z9 zz38 hb)
     clear BK101
     clear BK104
     clear HB
     have BK101:=n0_
     have BK104:=n1_
     have HB:=n2_
     clear n0_ n1_ n2_
     (try clear hb)
     (try clear hb2)
     (try clear hk)
     (try clear hi)
     refine hK.out _ _ ⟨(zf BK104.out 0).trans rfl,(zf BK104.out 1).trans rfl,((HB.out.cell (World.block_lt_of_cell? w _ hw105_0)).trans hw105_0),((HB.out.cell (World.block_lt_of_cell? w _ hw105_1)).trans hw105_1)⟩ (fun hHeld=>?_)
     clear hK K
     refine norm_ (a':=?_) ?_ ?_
     rotate_left
     · show Act.put _ (some 24) _ = _
       simp only [Act.put,List.setIfInBounds_toArray,List.set_cons_zero,List.set_cons_succ,zY,z16]
       rfl
     refine last_ (i:=6) (N:=none) #[true,true,true,true,true,true,true] rfl rfl zz84 zz85 (fun K hK=>?_)
     have hs15 : w14.cell? ⟨gb104,0,none⟩ = some (.int .u64 x105000_1):=(zf BK104.out 0).trans rfl
     have hfs15:=za BK104.out 0
     have hns15_0:=NB101_104.out
     have hms15_0:=NB104_101.out
     have hs16 : w14.cell? ⟨gb104,1,none⟩ = some (.int .u64 x105001_1):=(zf BK104.out 1).trans rfl
     have hfs16:=za BK104.out 1
     have hns16_0:=NB101_104.out
     have hms16_0:=NB104_101.out
     refine skip_ (w1:=?_) zz88 rfl ?_ ?_
     rotate_left
     · go_simp
       rfl
     refine hK.out _ _ ?_
     clear hK K
     refine done_ zz84 ?_
     try go_wp2
     go_roundg k1
     case measure=>have:=HK1.out;omega
     case rel=>exact ⟨(wrap64 (Int.tdiv x6_1 2)),(wrap64 (x7_1 + 1)),(t106),(t107),zz81,zz81,H',⟨by have:=HK1.out;omega⟩,⟨by (with_reducible repeat (first|refine z8 ?_ _|refine zb ?_|refine z7 ?_ _));refine zW ?_ NB101_104.out _;(with_reducible repeat (first|refine z8 ?_ _|refine zb ?_|refine z7 ?_ _));refine zW ?_ NB101_104.out _;(with_reducible repeat (first|refine z8 ?_ _|refine zb ?_|refine z7 ?_ _));exact BK101.out⟩,⟨by (with_reducible repeat (first|refine z8 ?_ _|refine zb ?_|refine z7 ?_ _));refine zX (cs:=#[.int .u64 t106,.int .u64 x105001_1]) ?_ 1 _ rfl;(with_reducible repeat (first|refine z8 ?_ _|refine zb ?_|refine z7 ?_ _));refine zX (cs:=#[.int .u64 x105000_1,.int .u64 x105001_1]) ?_ 0 _ rfl;(with_reducible repeat (first|refine z8 ?_ _|refine zb ?_|refine z7 ?_ _));exact BK104.out⟩,⟨by repeat (first|(with_reducible first|exact HB.out|apply zg|apply z6|apply zc|refine zd ?_ GE101.out|refine zd ?_ GE104.out)|exact HB.out)⟩⟩
   rw [if_neg c10] at H
   have c10b0 : ((Int.tmod x6_1 2) == 1) = false:=beq_eq_false_iff_ne.mpr c10
   have c10b1 : ((Int.tmod x6_1 2) != 1) = true:=bne_iff_ne.mpr c10
   replace H:=Option.bind_eq_some_iff.mp H
   obtain ⟨⟨t108,t109⟩,A170,H⟩:=H
   replace H : (if 0 ≤ x7_1 then ((z1u.f t108 t109 ((z1A l0 x7_1).f0) ((z1A l0 x7_1).f1)).bind fun bt111=>((zk.f k1 x105000_1 x105001_1 bt111.1 bt111.2).bind fun bt113=>(zo.l0 k1 l0 (wrap64 (Int.tdiv x6_1 2)) (wrap64 (x7_1 + 1)) bt113.1 bt113.2))) else (none)) = some (r1,r2):=H
   have A17:=z4.mk A170
   clear A170
   by_cases c18 : 0 ≤ x7_1
   rotate_left
   · rw [if_neg c18] at H
     exact absurd H zz87
   rw [if_pos c18] at H
   have c18b0 : decide (0 ≤ x7_1) = true:=decide_eq_true c18
   clear c18
   replace H:=Option.bind_eq_some_iff.mp H
   obtain ⟨⟨t111,t112⟩,A190,H⟩:=H
   replace H : ((zk.f k1 x105000_1 x105001_1 t111 t112).bind fun bt113=>(zo.l0 k1 l0 (wrap64 (Int.tdiv x6_1 2)) (wrap64 (x7_1 + 1)) bt113.1 bt113.2)) = some (r1,r2):=H
   have A19:=z4.mk A190
   clear A190
   replace H:=Option.bind_eq_some_iff.mp H
   obtain ⟨⟨t113,t114⟩,A200,H⟩:=H
   replace H : (zo.l0 k1 l0 (wrap64 (Int.tdiv x6_1 2)) (wrap64 (x7_1 + 1)) t113 t114) = some (r1,r2):=H
   have A20:=z4.mk A200
   clear A200
   have H':=z4.mk H
   clear H
   try go_wp2
   have n0_:=z4.mk (zb BK101.out)
   have n1_:=z4.mk (zb BK104.out)
   have n2_:=z4.mk (zc HB.out)
   clear BK101
   clear BK104
   clear HB
   have BK101:=n0_
   have BK104:=n1_
   have HB:=n2_
   clear n0_ n1_ n2_
   have p110 : 0 ≤ (x7_1 : Int):=of_decide_eq_true zz80
   have q110 : x7_1 < (l0.length : Int):=of_decide_eq_true zz80
   obtain ⟨ad110,e110,hx110_0,hx110_1⟩:=z44 HR0.out x7_1 p110 q110
   have hw110_1:=hx110_1
   have hw110_0:=hx110_0
   cases e110
   replace hx110_0:=(HB.out.cell (World.block_lt_of_cell? w _ hx110_0)).trans hx110_0
   replace hx110_1:=(HB.out.cell (World.block_lt_of_cell? w _ hx110_1)).trans hx110_1
   replace p110:=eq_true p110
   replace q110:=eq_true q110
   refine start_ (n:=9) (S:=fun w'=>w'.cell? ⟨gb104,0,none⟩ = some (.int .u64 x105000_1) ∧ w'.cell? ⟨gb104,1,none⟩ = some (.int .u64 x105001_1) ∧ w'.cell? (ad110.add ((x7_1).toNat * 2)) = some (.int .u64 ((z1A l0 x7_1).f0)) ∧ w'.cell? ⟨(ad110.add ((x7_1).toNat * 2)).block,(ad110.add ((x7_1).toNat * 2)).off + 1,none⟩ = some (.int .u64 ((z1A l0 x7_1).f1))) (ds:=[8]) #[false,false,false,false,false,false,false,false,false] zz84 rfl rfl ⟨(zf BK104.out 0).trans rfl,(zf BK104.out 1).trans rfl,((HB.out.cell (World.block_lt_of_cell? w _ hw110_0)).trans hw110_0),((HB.out.cell (World.block_lt_of_cell? w _ hw110_1)).trans hw110_1)⟩ (fun hHeld=>?_);refine z2e zo.tab8 zo.bits8 (fun HT_ HW_=>?_)
   generalize wr.drew = w21 at BK101 BK104 HB hx110_0 hx110_1 hHeld ⊢
   refine pure_ (i:=2) (N:=some 27) (v:=?_) (a':=?_) #[false,false,true,false,false,false,false,false,false] rfl rfl (z1v HT_.out zz84) (fun _ _ _ h=>h) (Or.inl ⟨by rfl,?_⟩) ?_ ?_
   rotate_left
   · intro w'
     go_simp
     with_reducible rfl
   rotate_left
   · simp only [Act.put,List.setIfInBounds_toArray,List.set_cons_zero,List.set_cons_succ,zY,z16]
     rfl
   refine pure_ (i:=3) (N:=some 28) (v:=?_) (a':=?_) #[false,false,true,true,false,false,false,false,false] rfl rfl (z1v HT_.out zz84) (fun _ _ _ h=>h) (Or.inl ⟨by rfl,?_⟩) ?_ ?_
   rotate_left
   · intro w'
     go_simp
     with_reducible rfl
   rotate_left
   · simp only [Act.put,List.setIfInBounds_toArray,List.set_cons_zero,List.set_cons_succ,zY,z16]
     rfl
   refine pure_ (i:=4) (N:=some 29) (v:=?_) (a':=?_) #[false,false,true,true,true,false,false,false,false] rfl rfl (z1v HT_.out zz84) (fun _ _ _ h=>h) (Or.inl ⟨by rfl,?_⟩) ?_ ?_
   rotate_left
   · intro w'
     go_simp
     with_reducible rfl
   rotate_left
   · simp only [Act.put,List.setIfInBounds_toArray,List.set_cons_zero,List.set_cons_succ,zY,z16]
     rfl
   refine take_ (i:=0) (N:=some 25) (v:=?_) (a':=?_) #[true,false,true,true,true,false,false,false,false] rfl rfl (z1S HT_.out HW_.out zz84) (fun _ _ _ h=>h) (Or.inl ⟨by rfl,?_⟩) hHeld ?_ ?_
   rotate_left
   · rintro w' ⟨s0,s1,s2,s3⟩
     go_simp
     with_reducible rfl
   rotate_left
   · simp only [Act.put,List.setIfInBounds_toArray,List.set_cons_zero,List.set_cons_succ,zY,z16]
     rfl
   refine take_ (i:=5) (N:=some 30) (v:=?_) (a':=?_) #[true,false,true,true,true,true,false,false,false] rfl rfl (z1S HT_.out HW_.out zz84) (fun _ _ _ h=>h) (Or.inl ⟨by rfl,?_⟩) hHeld ?_ ?_
   rotate_left
   · rintro w' ⟨s0,s1,s2,s3⟩
     go_simp
     with_reducible rfl
   rotate_left
   · simp only [Act.put,List.setIfInBounds_toArray,List.set_cons_zero,List.set_cons_succ,zY,z16]
     rfl
   refine one_ (i:=1) (N:=some 26) #[true,true,true,true,true,true,false,false,false] rfl rfl (z20 HT_.out zz84) zz85 (fun K hK=>?_)
   refine goes_ Try.func98 zz84 rfl #[] zz88 rfl rfl zz44 ?_
   with_reducible refine (z1J.calls  t108 t109 _ A17.out).mono ?_
   rintro e w22 ⟨rfl,hb⟩
   refine ⟨_,rfl,?_⟩
   have n0_:=z4.mk (zh (g:=gb101) (o:=.cells #[.int .u64 0,.int .u64 0] 48 (0,0)) zz46 hb)
   have n1_:=z4.mk (zh (g:=gb104) (o:=.cells #[.int .u64 x105000_1,.int .u64 x105001_1] 48 (0,0)) zz53 hb)
   have n2_:=z4.mk (z9 zz38 hb)
   clear BK101
   clear BK104
   clear HB
   have BK101:=n0_
   have BK104:=n1_
   have HB:=n2_
   clear n0_ n1_ n2_
   (try clear hb)
   (try clear hb2)
   (try clear hk)
   (try clear hi)
   refine hK.out _ _ ⟨(zf BK104.out 0).trans rfl,(zf BK104.out 1).trans rfl,((HB.out.cell (World.block_lt_of_cell? w _ hw110_0)).trans hw110_0),((HB.out.cell (World.block_lt_of_cell? w _ hw110_1)).trans hw110_1)⟩ (fun hHeld=>?_)
   clear hK K
   refine norm_ (a':=?_) ?_ ?_
   rotate_left
   · show Act.put _ (some 26) _ = _
     simp only [Act.put,List.setIfInBounds_toArray,List.set_cons_zero,List.set_cons_succ,zY,z16]
     rfl
   refine one_ (i:=6) (N:=some 31) #[true,true,true,true,true,true,true,false,false] rfl rfl (z20 HT_.out zz84) zz85 (fun K hK=>?_)
   refine goes_ Try.func64 zz84 rfl #[.agg #[.int .u64 t108,.int .u64 t109],.agg #[.int .u64 ((z1A l0 x7_1).f0),.int .u64 ((z1A l0 x7_1).f1)]] zz88 rfl rfl zz44 ?_
   with_reducible refine (z1u.calls t108 t109 ((z1A l0 x7_1).f0) ((z1A l0 x7_1).f1) t111 t112 _ A19.out).mono ?_
   rintro e w23 ⟨rfl,hb⟩
   refine ⟨_,rfl,?_⟩
   have n0_:=z4.mk (zh (g:=gb101) (o:=.cells #[.int .u64 0,.int .u64 0] 48 (0,0)) zz46 hb)
   have n1_:=z4.mk (zh (g:=gb104) (o:=.cells #[.int .u64 x105000_1,.int .u64 x105001_1] 48 (0,0)) zz53 hb)
   have n2_:=z4.mk (z9 zz38 hb)
   clear BK101
   clear BK104
   clear HB
   have BK101:=n0_
   have BK104:=n1_
   have HB:=n2_
   clear n0_ n1_ n2_
   (try clear hb)
   (try clear hb2)
   (try clear hk)
   (try clear hi)
   refine hK.out _ _ ⟨(zf BK104.out 0).trans rfl,(zf BK104.out 1).trans rfl,((HB.out.cell (World.block_lt_of_cell? w _ hw110_0)).trans hw110_0),((HB.out.cell (World.block_lt_of_cell? w _ hw110_1)).trans hw110_1)⟩ (fun hHeld=>?_)
   clear hK K
   refine norm_ (a':=?_) ?_ ?_
   rotate_left
   · show Act.put _ (some 31) _ = _
     simp only [Act.put,List.setIfInBounds_toArray,List.set_cons_zero,List.set_cons_succ,zY,z16]
     rfl
   refine one_ (i:=7) (N:=some 32) #[true,true,true,true,true,true,true,true,false] rfl rfl (z20 HT_.out zz84) zz85 (fun K hK=>?_)
   refine goes_ Try.func67 zz84 rfl #[.agg #[.int .u64 x105000_1,.int .u64 x105001_1],.agg #[.int .u64 t111,.int .u64 t112]] zz88 rfl rfl zz44 ?_
   with_reducible refine (zk.calls k1 x105000_1 x105001_1 t111 t112 t113 t114 _ A20.out).mono ?_
   rintro e w24 ⟨rfl,hb⟩
   refine ⟨_,rfl,?_⟩
   have n0_:=z4.mk (zh (g:=gb101) (o:=.cells #[.int .u64 0,.int .u64 0] 48 (0,0)) zz46 hb)
   have n1_:=z4.mk (zh (g:=gb104) (o:=.cells #[.int .u64 x105000_1,.int .u64 x105001_1] 48 (0,0)) zz53 hb)
   have n2_:=z4.mk (z9 zz38 hb)
   clear BK101
   clear BK104
   clear HB
   have BK101:=n0_
   have BK104:=n1_
   have HB:=n2_
   clear n0_ n1_ n2_
   (try clear hb)
   (try clear hb2)
   (try clear hk)
   (try clear hi)
   refine hK.out _ _ ⟨(zf BK104.out 0).trans rfl,(zf BK104.out 1).trans rfl,((HB.out.cell (World.block_lt_of_cell? w _ hw110_0)).trans hw110_0),((HB.out.cell (World.block_lt_of_cell? w _ hw110_1)).trans hw110_1)⟩ (fun hHeld=>?_)
   clear hK K
   refine norm_ (a':=?_) ?_ ?_
   rotate_left
   · show Act.put _ (some 32) _ = _
     simp only [Act.put,List.setIfInBounds_toArray,List.set_cons_zero,List.set_cons_succ,zY,z16]
     rfl
   refine last_ (i:=8) (N:=none) #[true,true,true,true,true,true,true,true,true] rfl rfl (z20 HT_.out zz84) zz85 (fun K hK=>?_)
   have hs25 : w24.cell? ⟨gb104,0,none⟩ = some (.int .u64 x105000_1):=(zf BK104.out 0).trans rfl
   have hfs25:=za BK104.out 0
   have hns25_0:=NB101_104.out
   have hms25_0:=NB104_101.out
   have hs26 : w24.cell? ⟨gb104,1,none⟩ = some (.int .u64 x105001_1):=(zf BK104.out 1).trans rfl
   have hfs26:=za BK104.out 1
   have hns26_0:=NB101_104.out
   have hms26_0:=NB104_101.out
   refine skip_ (w1:=?_) zz88 rfl ?_ ?_
   rotate_left
   · go_simp
     rfl
   refine hK.out _ _ ?_
   clear hK K
   refine done_ (z2B HT_.out zz84) ?_
   try go_wp2
   go_roundg k1
   case measure=>have:=HK1.out;omega
   case rel=>exact ⟨(wrap64 (Int.tdiv x6_1 2)),(wrap64 (x7_1 + 1)),(t113),(t114),zz81,zz81,H',⟨by have:=HK1.out;omega⟩,⟨by (with_reducible repeat (first|refine z8 ?_ _|refine zb ?_|refine z7 ?_ _));refine zW ?_ NB101_104.out _;(with_reducible repeat (first|refine z8 ?_ _|refine zb ?_|refine z7 ?_ _));refine zW ?_ NB101_104.out _;(with_reducible repeat (first|refine z8 ?_ _|refine zb ?_|refine z7 ?_ _));exact BK101.out⟩,⟨by (with_reducible repeat (first|refine z8 ?_ _|refine zb ?_|refine z7 ?_ _));refine zX (cs:=#[.int .u64 t113,.int .u64 x105001_1]) ?_ 1 _ rfl;(with_reducible repeat (first|refine z8 ?_ _|refine zb ?_|refine z7 ?_ _));refine zX (cs:=#[.int .u64 x105000_1,.int .u64 x105001_1]) ?_ 0 _ rfl;(with_reducible repeat (first|refine z8 ?_ _|refine zb ?_|refine z7 ?_ _));exact BK104.out⟩,⟨by repeat (first|(with_reducible first|exact HB.out|apply zg|apply z6|apply zc|refine zd ?_ GE101.out|refine zd ?_ GE104.out)|exact HB.out)⟩⟩
end Go.Proofs.Ytklkmflhnljbdaa.P
/- The document's weights. Own text. -/
namespace Go.Proofs.Ytklkmflhnljbdaa.Sp
open Go.RowKit Go.Proofs.YtklkmflhnljbdaaW.PrintWords Go.Proofs.YtklkmflhnljbdaaW.PrintMore Go.Proofs.Ytklkmflhnljbdaa.P Go.Proofs.Ytklkmflhnljbdaa.Ar Go.Proofs.Ytklkmflhnljbdaa.Tw
set_option linter.unusedVariables false
set_option linter.unusedSimpArgs false
/-- The document's weights and values. -/
theorem z5y : z1J.f = some (hi 1, lo 1) := by unfold z1J.f; rw [hi_one, lo_one]
theorem z7G (P : List E) (hP : P.length ≤ 1000000) : ∀ (d j n : Nat) (acc : E), j + d = P.length → n ≤ 4611686018427387904 →
    Ev (fun q => zo.l0 q (P.map toR) (n : Int) (j : Int) (hi acc) (lo acc)) (hi (acc * weight (P.drop j) n), lo (acc * weight (P.drop j) n)) := by
  intro d
  induction d with
  | zero =>
    intro j n acc hj hn
    refine Ev.step (fun q => by rw [zo.l0]) (Ev.neg (by rw [List.length_map]; omega) (Ev.ret' ?_))
    rw [List.drop_eq_nil_of_le (by omega), weight, mul_one]
  | succ d ih =>
    intro j n acc hj hn
    have hj' : j < P.length := by omega
    have e1 : Int.tmod (n : Int) 2 = ((n % 2 : Nat) : Int) := by rw [Int.tmod_eq_emod_of_nonneg (by omega)]; omega
    have e2 : wrap64 (Int.tdiv (n : Int) 2) = ((n / 2 : Nat) : Int) := by
      rw [Int.tdiv_eq_ediv_of_nonneg (by omega), z28 (by omega) (by omega)]; omega
    have hw : weight (P.drop j) n = (if n % 2 = 1 then P.getD j 0 else 1 + P.getD j 0) * weight (P.drop (j + 1)) (n / 2) := by
      rw [List.drop_eq_getElem_cons hj', weight]
      have : P.getD j 0 = P[j] := by rw [List.getD_eq_getElem?_getD, List.getElem?_eq_getElem hj']; rfl
      rw [this]
    refine Ev.step (fun q => by rw [zo.l0]) (Ev.pos (by rw [List.length_map]; omega) ?_)
    simp only [e1, e2, rdR, z6j, z6k, z1M hj' (show P.length ≤ 4611686018427387904 by omega)]
    by_cases c : n % 2 = 1
    · refine Ev.pos (by omega) (Ev.pos (Int.natCast_nonneg _) (Ev.bnd (z3z _ _) ?_))
      rw [hw, if_pos c, ← mul_assoc]
      exact ih (j + 1) (n / 2) _ (by omega) (by omega)
    · refine Ev.neg (by omega) (Ev.bnd0 z5y (Ev.pos (Int.natCast_nonneg _) (Ev.bnd0 (z4k _ _) (Ev.bnd (z3z _ _) ?_))))
      rw [hw, if_neg c, ← mul_assoc]
      exact ih (j + 1) (n / 2) _ (by omega) (by omega)
theorem z7F (P : List E) (hP : P.length ≤ 1000000) (n : Nat) (hn : n ≤ 4611686018427387904) : Ev (fun q => zo.f q (P.map toR) (n : Int)) (hi (weight P n), lo (weight P n)) := by
  unfold zo.f
  refine Ev.bnd0 z5y ?_
  have := z7G P hP P.length 0 n 1 (by omega) hn
  rw [List.drop_zero, one_mul] at this
  exact this
end Go.Proofs.Ytklkmflhnljbdaa.Sp
namespace Go.Proofs.Ytklkmflhnljbdaa.P
open Go.RowKit Go.Proofs.YtklkmflhnljbdaaW.PrintWords Go.Proofs.YtklkmflhnljbdaaW.PrintLast Go.Proofs.YtklkmflhnljbdaaW.PrintMore
attribute [local go_sem] z17 z19 z1m z1n zU zV z18 z1a   -- for this text's walks alone
set_option linter.unusedVariables false
set_option linter.unusedSimpArgs false
def zB.l0 : Nat → List (S48) → List (S48) → Int → Int → Int → Option (Int × Int)
 | 0,_,_,_,_,_=>none
 | k + 1,x0,x1,x6,x103000,x103001=>if x6 < (x0.length : Int) then (if 0 ≤ x6 then ((zo.f k x1 x6).bind fun bt104=>((zk.f k ((z1A x0 x6).f0) ((z1A x0 x6).f1) bt104.1 bt104.2).bind fun bt106=>((z1u.f x103000 x103001 bt106.1 bt106.2).bind fun bt108=>(zB.l0 k x0 x1 (wrap64 (x6 + 1)) bt108.1 bt108.2)))) else (none)) else (some (x103000,x103001))
def zB.f (k : Nat) (l0 : List (S48)) (l1 : List (S48)) : Option (Int × Int):=zB.l0 k l0 l1 0 0 0
theorem zB.z1b : ∀ k,(∀ y0 y1 y2 y3 y4,LeO (zB.l0 k y0 y1 y2 y3 y4) (zB.l0 (k + 1) y0 y1 y2 y3 y4))
 | 0=>fun _ _ _ _ _ r h=>by simp [zB.l0] at h
 | k + 1=>by
  have ih0:=zB.z1b k
  · intro y0 y1 y2 y3 y4
    unfold zB.l0
    repeat' first
    | (with_reducible exact ih0 _ _ _ _ _)
    | (with_reducible exact zk.mono _ _ _ _ _)
    | (with_reducible exact zo.mono _ _ _)
    | (with_reducible exact LeO.refl _)
    | (with_reducible exact LeO.none _)
    | (with_reducible refine LeO.ite ?_ ?_)
    | (with_reducible refine LeO.bind ?_ (fun _=>?_))
    | exact ih0 _ _ _ _ _
    | exact zk.mono _ _ _ _ _
    | exact zo.mono _ _ _
    | exact LeO.none _
    | refine LeO.ite ?_ ?_
    | refine LeO.bind ?_ (fun _=>?_)
theorem zB.mono : ∀ a0 a1 k,LeO (zB.f k a0 a1) (zB.f (k + 1) a0 a1):=by
 intro a0 a1 k
 have ih0:=zB.z1b k
 unfold zB.f
 repeat' first
  | (with_reducible exact ih0 _ _ _ _ _)
  | (with_reducible exact zk.mono _ _ _ _ _)
  | (with_reducible exact zo.mono _ _ _)
  | (with_reducible exact LeO.refl _)
  | (with_reducible exact LeO.none _)
  | (with_reducible refine LeO.ite ?_ ?_)
  | (with_reducible refine LeO.bind ?_ (fun _=>?_))
  | exact ih0 _ _ _ _ _
  | exact zk.mono _ _ _ _ _
  | exact zo.mono _ _ _
  | exact LeO.none _
  | refine LeO.ite ?_ ?_
  | refine LeO.bind ?_ (fun _=>?_)
def zB.T5 : Bool × List (List Nat × List Nat):=(true,[([],[]),([],[]),([],[]),([1,2],[1,2]),([3],[3]),([],[]),([],[]),([5,6],[5,6]),([4,7,7],[4,7]),([0,8,8],[0,8]),([9,9,0,1,2,3,4,5,6,7,8,9],[9])])
def zB.B5 : List Nat:=[0,0,0,6,14,0,0,96,254,511,1023]
theorem zB.tab5 : rtab .any (opsOf Try.f27 5) = zB.T5:=by kernel_rfl
theorem zB.bits5 : waitsOk zB.T5.2 zB.B5 = true:=by kernel_rfl
set_option maxHeartbeats 8000000 in
set_option maxRecDepth 100000 in
theorem zB.calls (k : Nat) (A0 : Option Addr) (c0 : Nat) (l0 : List (S48)) (A1 : Option Addr) (c1 : Nat) (l1 : List (S48)) (r1 : Int) (r2 : Int) (w : World) (hr0 : Kd.C k48 w A0 l0.length l0) (hc0 : l0.length ≤ c0) (hr1 : Kd.C k48 w A1 l1.length l1) (hc1 : l1.length ≤ c1) (h : zB.f k l0 l1 = some (r1,r2)) :
 Calls Try.prog 27 #[.slice A0 l0.length c0,.slice A1 l1.length c1] w fun e w'=>e = .returned (.agg #[.int .u64 r1,.int .u64 r2]) ∧ Below w.heap.size w w':=by
 have hu48:=Try.underlying48
 have HR0:=z4.mk hr0
 have HC0:=z4.mk hc0
 clear hr0 hc0
 have HR1:=z4.mk hr1
 have HC1:=z4.mk hc1
 clear hr1 hc1
 have HB:=z4.mk (Below.refl w.heap.size w)
 have H : (zB.l0 k l0 l1 0 0 0) = some (r1,r2):=h
 clear h
 have H':=z4.mk H
 clear H
 go_enter Try.func27,Try.ntmps27
 go_wp2_with (first|((with_reducible refine zr (N:=4) rfl ?_);refine zy ?hg (N:=4) ?hd (cs:=#[.int .u64 0,.int .u64 0]) (t:=48) ?hr ?_;(case hd=>rfl);(case hg=>rfl);(case hr=>first|(go_simp;done)|(go_simp;rfl));intro gb101 hg w3 hbox hb;have n0_:=z4.mk (z9 zz45 hb);have n1_:=z4.mk (hbox);have n2_:=z4.mk ((by rw [hg];exact (ze zz45) : w.heap.size ≤ gb101));have n3_:=z4.mk ((by rw [hg];exact (ze zz45) : w.heap.size ≤ gb101));clear HB;have HB:=n0_;have BK101:=n1_;have GW101:=n2_;have GE101:=n3_;clear n0_ n1_ n2_ n3_;clear hb hbox hg)|((with_reducible refine zr (N:=5) rfl ?_);refine zy ?hg (N:=5) ?hd (cs:=#[.int .u64 0,.int .u64 0]) (t:=48) ?hr ?_;(case hd=>rfl);(case hg=>rfl);(case hr=>first|(go_simp;done)|(go_simp;rfl));intro gb102 hg w4 hbox hb;have n0_:=z4.mk (zh (g:=gb101) (o:=.cells #[.int .u64 0,.int .u64 0] 48 (0,0)) zz46 hb);have n1_:=z4.mk (z9 zz40 hb);have n2_:=z4.mk (hbox);have n3_:=z4.mk ((by rw [hg];exact (ze zz40) : w.heap.size ≤ gb102));have n4_:=z4.mk ((by rw [hg];exact (ze zz40) : w.heap.size ≤ gb102));have n5_:=z4.mk ((by rw [hg];exact Nat.ne_of_lt (zO (g:=gb101) (o:=.cells #[.int .u64 0,.int .u64 0] 48 (0,0)) zz46) : gb101 ≠ gb102));have n6_:=z4.mk ((by rw [hg];exact Nat.ne_of_gt (zO (g:=gb101) (o:=.cells #[.int .u64 0,.int .u64 0] 48 (0,0)) zz46) : gb102 ≠ gb101));clear BK101;clear HB;have BK101:=n0_;have HB:=n1_;have BK102:=n2_;have GW102:=n3_;have GE102:=n4_;have NB101_102:=n5_;have NB102_101:=n6_;clear n0_ n1_ n2_ n3_ n4_ n5_ n6_;clear hb hbox hg))
 go_loopg [6] k (fun kq v6 w'=>∃ (x6_1 : Int) (x103000_1 : Int) (x103001_1 : Int),v6 = .int .i64 x6_1 ∧ z4 (zB.l0 kq l0 l1 x6_1 x103000_1 x103001_1 = some (r1,r2)) ∧ z4 (kq ≤ k) ∧ z4 (w'.heap[gb101]? = some (.cells #[.int .u64 0,.int .u64 0] 48 (0,0))) ∧ z4 (w'.heap[gb102]? = some (.cells #[.int .u64 x103000_1,.int .u64 x103001_1] 48 (0,0))) ∧ z4 (Below w.heap.size w w'))
 case atStart=>exact ⟨(0),(0),(0),zz81,H',⟨Nat.le_refl _⟩,⟨by (with_reducible repeat (first|refine z8 ?_ _|refine zb ?_|refine z7 ?_ _));exact BK101.out⟩,⟨by (with_reducible repeat (first|refine z8 ?_ _|refine zb ?_|refine z7 ?_ _));exact BK102.out⟩,⟨by repeat (first|(with_reducible first|exact HB.out|apply zg|apply z6|apply zc|refine zd ?_ GE101.out|refine zd ?_ GE102.out)|exact HB.out)⟩⟩
 case round =>
  clear H'
  (try clear c1);(try clear c2);(try clear p2)
  obtain ⟨x6_1,x103000_1,x103001_1,rfl,HA,HK1,BK101,BK102,HB⟩:=hrel
  cases gk with
  | zero=>exact absurd HA.out (by simp [zB.l0])
  | succ k1 =>
   have H:=HA.out
   clear HA
   simp only [zB.l0] at H
   by_cases c5 : x6_1 < (l0.length : Int)
   rotate_left
   · rw [if_neg c5] at H
     have c5b0 : decide (x6_1 < (l0.length : Int)) = false:=decide_eq_false c5
     clear c5
     simp only [Option.some.injEq,Prod.mk.injEq] at H
     obtain ⟨rfl,rfl⟩:=H
     have hnb16:=NB102_101.out
     have hnc16:=NB101_102.out
     have hcz17_0 : wr.cell? ⟨gb102,0,none⟩ = some (.int .u64 x103000_1):=(zf BK102.out 0).trans rfl
     have hcz17_1 : wr.cell? ⟨gb102,1,none⟩ = some (.int .u64 x103001_1):=(zf BK102.out 1).trans rfl
     have hfz17_0:=za BK102.out 0
     have hfz17_1:=za BK102.out 1
     have hcz18_0 : wr.cell? ⟨gb101,0,none⟩ = some (.int .u64 0):=(zf BK101.out 0).trans rfl
     have hcz18_1 : wr.cell? ⟨gb101,1,none⟩ = some (.int .u64 0):=(zf BK101.out 1).trans rfl
     have hfz18_0:=za BK101.out 0
     have hfz18_1:=za BK101.out 1
     go_wp2
     refine bodyPost_ret (results_cell_row rfl _ _ gb101 48 #[.int .u64 x103000_1,.int .u64 x103001_1] (0,0) _ rfl (by (with_reducible repeat (first|refine z8 ?_ _|refine zb ?_|refine z7 ?_ _));refine zX (cs:=#[.int .u64 x103000_1,.int .u64 0]) ?_ 1 _ rfl;(with_reducible repeat (first|refine z8 ?_ _|refine zb ?_|refine z7 ?_ _));refine zX (cs:=#[.int .u64 0,.int .u64 0]) ?_ 0 _ rfl;(with_reducible repeat (first|refine z8 ?_ _|refine zb ?_|refine z7 ?_ _));exact BK101.out) Try.underlying48 rfl zz84) rfl ?_
     exact ⟨by first|rfl|(simp [zi,zj] <;> rfl)|(simp [*,zi,zj] <;> rfl),by repeat (first|(with_reducible first|exact HB.out|apply zg|apply z6|apply zc|refine zd ?_ GE101.out|refine zd ?_ GE102.out)|exact HB.out)⟩
   rw [if_pos c5] at H
   have c5b0 : decide (x6_1 < (l0.length : Int)) = true:=decide_eq_true c5
   clear c5
   by_cases c6 : 0 ≤ x6_1
   rotate_left
   · rw [if_neg c6] at H
     exact absurd H zz87
   rw [if_pos c6] at H
   have c6b0 : decide (0 ≤ x6_1) = true:=decide_eq_true c6
   clear c6
   replace H:=Option.bind_eq_some_iff.mp H
   obtain ⟨⟨t104,t105⟩,A70,H⟩:=H
   replace H : ((zk.f k1 ((z1A l0 x6_1).f0) ((z1A l0 x6_1).f1) t104 t105).bind fun bt106=>((z1u.f x103000_1 x103001_1 bt106.1 bt106.2).bind fun bt108=>(zB.l0 k1 l0 l1 (wrap64 (x6_1 + 1)) bt108.1 bt108.2))) = some (r1,r2):=H
   have A7:=z4.mk A70
   clear A70
   replace H:=Option.bind_eq_some_iff.mp H
   obtain ⟨⟨t106,t107⟩,A80,H⟩:=H
   replace H : ((z1u.f x103000_1 x103001_1 t106 t107).bind fun bt108=>(zB.l0 k1 l0 l1 (wrap64 (x6_1 + 1)) bt108.1 bt108.2)) = some (r1,r2):=H
   have A8:=z4.mk A80
   clear A80
   replace H:=Option.bind_eq_some_iff.mp H
   obtain ⟨⟨t108,t109⟩,A90,H⟩:=H
   replace H : (zB.l0 k1 l0 l1 (wrap64 (x6_1 + 1)) t108 t109) = some (r1,r2):=H
   have A9:=z4.mk A90
   clear A90
   have H':=z4.mk H
   clear H
   try go_wp2
   have n0_:=z4.mk (zb BK101.out)
   have n1_:=z4.mk (zb BK102.out)
   have n2_:=z4.mk (zc HB.out)
   clear BK101
   clear BK102
   clear HB
   have BK101:=n0_
   have BK102:=n1_
   have HB:=n2_
   clear n0_ n1_ n2_
   have p103 : 0 ≤ (x6_1 : Int):=of_decide_eq_true zz80
   have q103 : x6_1 < (l0.length : Int):=of_decide_eq_true zz80
   obtain ⟨ad103,e103,hx103_0,hx103_1⟩:=z44 HR0.out x6_1 p103 q103
   have hw103_1:=hx103_1
   have hw103_0:=hx103_0
   cases e103
   replace hx103_0:=(HB.out.cell (World.block_lt_of_cell? w _ hx103_0)).trans hx103_0
   replace hx103_1:=(HB.out.cell (World.block_lt_of_cell? w _ hx103_1)).trans hx103_1
   replace p103:=eq_true p103
   replace q103:=eq_true q103
   refine start_ (n:=11) (S:=fun w'=>w'.cell? ⟨gb102,0,none⟩ = some (.int .u64 x103000_1) ∧ w'.cell? ⟨gb102,1,none⟩ = some (.int .u64 x103001_1) ∧ w'.cell? (ad103.add ((x6_1).toNat * 2)) = some (.int .u64 ((z1A l0 x6_1).f0)) ∧ w'.cell? ⟨(ad103.add ((x6_1).toNat * 2)).block,(ad103.add ((x6_1).toNat * 2)).off + 1,none⟩ = some (.int .u64 ((z1A l0 x6_1).f1))) (ds:=[10]) #[false,false,false,false,false,false,false,false,false,false,false] zz84 rfl rfl ⟨(zf BK102.out 0).trans rfl,(zf BK102.out 1).trans rfl,((HB.out.cell (World.block_lt_of_cell? w _ hw103_0)).trans hw103_0),((HB.out.cell (World.block_lt_of_cell? w _ hw103_1)).trans hw103_1)⟩ (fun hHeld=>?_);refine z2e zB.tab5 zB.bits5 (fun HT_ HW_=>?_)
   generalize wr.drew = w10 at BK101 BK102 HB hx103_0 hx103_1 hHeld ⊢
   refine pure_ (i:=1) (N:=some 14) (v:=?_) (a':=?_) #[false,true,false,false,false,false,false,false,false,false,false] rfl rfl (z1v HT_.out zz84) (fun _ _ _ h=>h) (Or.inl ⟨by rfl,?_⟩) ?_ ?_
   rotate_left
   · intro w'
     go_simp
     with_reducible rfl
   rotate_left
   · simp only [Act.put,List.setIfInBounds_toArray,List.set_cons_zero,List.set_cons_succ,zY,z16]
     rfl
   refine pure_ (i:=2) (N:=some 15) (v:=?_) (a':=?_) #[false,true,true,false,false,false,false,false,false,false,false] rfl rfl (z1v HT_.out zz84) (fun _ _ _ h=>h) (Or.inl ⟨by rfl,?_⟩) ?_ ?_
   rotate_left
   · intro w'
     go_simp
     with_reducible rfl
   rotate_left
   · simp only [Act.put,List.setIfInBounds_toArray,List.set_cons_zero,List.set_cons_succ,zY,z16]
     rfl
   refine pure_ (i:=3) (N:=some 16) (v:=?_) (a':=?_) #[false,true,true,true,false,false,false,false,false,false,false] rfl rfl (z1v HT_.out zz84) (fun _ _ _ h=>h) (Or.inl ⟨by rfl,?_⟩) ?_ ?_
   rotate_left
   · intro w'
     go_simp
     with_reducible rfl
   rotate_left
   · simp only [Act.put,List.setIfInBounds_toArray,List.set_cons_zero,List.set_cons_succ,zY,z16]
     rfl
   refine pure_ (i:=5) (N:=some 18) (v:=?_) (a':=?_) #[false,true,true,true,false,true,false,false,false,false,false] rfl rfl (z1v HT_.out zz84) (fun _ _ _ h=>h) (Or.inl ⟨by rfl,?_⟩) ?_ ?_
   rotate_left
   · intro w'
     go_simp
     with_reducible rfl
   rotate_left
   · simp only [Act.put,List.setIfInBounds_toArray,List.set_cons_zero,List.set_cons_succ,zY,z16]
     rfl
   refine pure_ (i:=6) (N:=some 19) (v:=?_) (a':=?_) #[false,true,true,true,false,true,true,false,false,false,false] rfl rfl (z1v HT_.out zz84) (fun _ _ _ h=>h) (Or.inl ⟨by rfl,?_⟩) ?_ ?_
   rotate_left
   · intro w'
     go_simp
     with_reducible rfl
   rotate_left
   · simp only [Act.put,List.setIfInBounds_toArray,List.set_cons_zero,List.set_cons_succ,zY,z16]
     rfl
   refine take_ (i:=0) (N:=some 13) (v:=?_) (a':=?_) #[true,true,true,true,false,true,true,false,false,false,false] rfl rfl (z1S HT_.out HW_.out zz84) (fun _ _ _ h=>h) (Or.inl ⟨by rfl,?_⟩) hHeld ?_ ?_
   rotate_left
   · rintro w' ⟨s0,s1,s2,s3⟩
     go_simp
     with_reducible rfl
   rotate_left
   · simp only [Act.put,List.setIfInBounds_toArray,List.set_cons_zero,List.set_cons_succ,zY,z16]
     rfl
   refine take_ (i:=4) (N:=some 17) (v:=?_) (a':=?_) #[true,true,true,true,true,true,true,false,false,false,false] rfl rfl (z1S HT_.out HW_.out zz84) (fun _ _ _ h=>h) (Or.inl ⟨by rfl,?_⟩) hHeld ?_ ?_
   rotate_left
   · rintro w' ⟨s0,s1,s2,s3⟩
     go_simp
     with_reducible rfl
   rotate_left
   · simp only [Act.put,List.setIfInBounds_toArray,List.set_cons_zero,List.set_cons_succ,zY,z16]
     rfl
   refine one_ (i:=7) (N:=some 20) #[true,true,true,true,true,true,true,true,false,false,false] rfl rfl (z20 HT_.out zz84) zz85 (fun K hK=>?_)
   refine goes_ Try.func66 zz84 rfl #[.slice A1 l1.length c1,.int .i64 x6_1] zz88 rfl rfl zz44 ?_
   with_reducible refine (zo.calls k1 _ _ l1 x6_1 t104 t105 _ ?side1 ?side2 A7.out).mono ?_
   (case side1=>repeat (first|exact (Kd.z1s HR1.out HB.out)|(with_reducible refine Kd.zQ ?_ _)|(with_reducible refine Kd.zR ?_ _)|(with_reducible refine Kd.z1c ?_)))
   (case side2=>exact HC1.out)
   rintro e w11 ⟨rfl,hb⟩
   refine ⟨_,rfl,?_⟩
   have n0_:=z4.mk (zh (g:=gb101) (o:=.cells #[.int .u64 0,.int .u64 0] 48 (0,0)) zz46 hb)
   have n1_:=z4.mk (zh (g:=gb102) (o:=.cells #[.int .u64 x103000_1,.int .u64 x103001_1] 48 (0,0)) zz47 hb)
   have n2_:=z4.mk (z9 zz33 hb)
   clear BK101
   clear BK102
   clear HB
   have BK101:=n0_
   have BK102:=n1_
   have HB:=n2_
   clear n0_ n1_ n2_
   (try clear hb)
   (try clear hb2)
   (try clear hk)
   (try clear hi)
   refine hK.out _ _ ⟨(zf BK102.out 0).trans rfl,(zf BK102.out 1).trans rfl,((HB.out.cell (World.block_lt_of_cell? w _ hw103_0)).trans hw103_0),((HB.out.cell (World.block_lt_of_cell? w _ hw103_1)).trans hw103_1)⟩ (fun hHeld=>?_)
   clear hK K
   refine norm_ (a':=?_) ?_ ?_
   rotate_left
   · show Act.put _ (some 20) _ = _
     simp only [Act.put,List.setIfInBounds_toArray,List.set_cons_zero,List.set_cons_succ,zY,z16]
     rfl
   refine one_ (i:=8) (N:=some 21) #[true,true,true,true,true,true,true,true,true,false,false] rfl rfl (z20 HT_.out zz84) zz85 (fun K hK=>?_)
   refine goes_ Try.func67 zz84 rfl #[.agg #[.int .u64 ((z1A l0 x6_1).f0),.int .u64 ((z1A l0 x6_1).f1)],.agg #[.int .u64 t104,.int .u64 t105]] zz88 rfl rfl zz44 ?_
   with_reducible refine (zk.calls k1 ((z1A l0 x6_1).f0) ((z1A l0 x6_1).f1) t104 t105 t106 t107 _ A8.out).mono ?_
   rintro e w12 ⟨rfl,hb⟩
   refine ⟨_,rfl,?_⟩
   have n0_:=z4.mk (zh (g:=gb101) (o:=.cells #[.int .u64 0,.int .u64 0] 48 (0,0)) zz46 hb)
   have n1_:=z4.mk (zh (g:=gb102) (o:=.cells #[.int .u64 x103000_1,.int .u64 x103001_1] 48 (0,0)) zz47 hb)
   have n2_:=z4.mk (z9 zz33 hb)
   clear BK101
   clear BK102
   clear HB
   have BK101:=n0_
   have BK102:=n1_
   have HB:=n2_
   clear n0_ n1_ n2_
   (try clear hb)
   (try clear hb2)
   (try clear hk)
   (try clear hi)
   refine hK.out _ _ ⟨(zf BK102.out 0).trans rfl,(zf BK102.out 1).trans rfl,((HB.out.cell (World.block_lt_of_cell? w _ hw103_0)).trans hw103_0),((HB.out.cell (World.block_lt_of_cell? w _ hw103_1)).trans hw103_1)⟩ (fun hHeld=>?_)
   clear hK K
   refine norm_ (a':=?_) ?_ ?_
   rotate_left
   · show Act.put _ (some 21) _ = _
     simp only [Act.put,List.setIfInBounds_toArray,List.set_cons_zero,List.set_cons_succ,zY,z16]
     rfl
   refine one_ (i:=9) (N:=some 22) #[true,true,true,true,true,true,true,true,true,true,false] rfl rfl (z20 HT_.out zz84) zz85 (fun K hK=>?_)
   refine goes_ Try.func64 zz84 rfl #[.agg #[.int .u64 x103000_1,.int .u64 x103001_1],.agg #[.int .u64 t106,.int .u64 t107]] zz88 rfl rfl zz44 ?_
   with_reducible refine (z1u.calls x103000_1 x103001_1 t106 t107 t108 t109 _ A9.out).mono ?_
   rintro e w13 ⟨rfl,hb⟩
   refine ⟨_,rfl,?_⟩
   have n0_:=z4.mk (zh (g:=gb101) (o:=.cells #[.int .u64 0,.int .u64 0] 48 (0,0)) zz46 hb)
   have n1_:=z4.mk (zh (g:=gb102) (o:=.cells #[.int .u64 x103000_1,.int .u64 x103001_1] 48 (0,0)) zz47 hb)
   have n2_:=z4.mk (z9 zz33 hb)
   clear BK101
   clear BK102
   clear HB
   have BK101:=n0_
   have BK102:=n1_
   have HB:=n2_
   clear n0_ n1_ n2_
   (try clear hb)
   (try clear hb2)
   (try clear hk)
   (try clear hi)
   refine hK.out _ _ ⟨(zf BK102.out 0).trans rfl,(zf BK102.out 1).trans rfl,((HB.out.cell (World.block_lt_of_cell? w _ hw103_0)).trans hw103_0),((HB.out.cell (World.block_lt_of_cell? w _ hw103_1)).trans hw103_1)⟩ (fun hHeld=>?_)
   clear hK K
   refine norm_ (a':=?_) ?_ ?_
   rotate_left
   · show Act.put _ (some 22) _ = _
     simp only [Act.put,List.setIfInBounds_toArray,List.set_cons_zero,List.set_cons_succ,zY,z16]
     rfl
   refine last_ (i:=10) (N:=none) #[true,true,true,true,true,true,true,true,true,true,true] rfl rfl (z20 HT_.out zz84) zz85 (fun K hK=>?_)
   have hs14 : w13.cell? ⟨gb102,0,none⟩ = some (.int .u64 x103000_1):=(zf BK102.out 0).trans rfl
   have hfs14:=za BK102.out 0
   have hns14_0:=NB101_102.out
   have hms14_0:=NB102_101.out
   have hs15 : w13.cell? ⟨gb102,1,none⟩ = some (.int .u64 x103001_1):=(zf BK102.out 1).trans rfl
   have hfs15:=za BK102.out 1
   have hns15_0:=NB101_102.out
   have hms15_0:=NB102_101.out
   refine skip_ (w1:=?_) zz88 rfl ?_ ?_
   rotate_left
   · go_simp
     rfl
   refine hK.out _ _ ?_
   clear hK K
   refine done_ (z2B HT_.out zz84) ?_
   try go_wp2
   go_roundg k1
   case measure=>have:=HK1.out;omega
   case rel=>exact ⟨(wrap64 (x6_1 + 1)),(t108),(t109),zz81,H',⟨by have:=HK1.out;omega⟩,⟨by (with_reducible repeat (first|refine z8 ?_ _|refine zb ?_|refine z7 ?_ _));refine zW ?_ NB101_102.out _;(with_reducible repeat (first|refine z8 ?_ _|refine zb ?_|refine z7 ?_ _));refine zW ?_ NB101_102.out _;(with_reducible repeat (first|refine z8 ?_ _|refine zb ?_|refine z7 ?_ _));exact BK101.out⟩,⟨by (with_reducible repeat (first|refine z8 ?_ _|refine zb ?_|refine z7 ?_ _));refine zX (cs:=#[.int .u64 t108,.int .u64 x103001_1]) ?_ 1 _ rfl;(with_reducible repeat (first|refine z8 ?_ _|refine zb ?_|refine z7 ?_ _));refine zX (cs:=#[.int .u64 x103000_1,.int .u64 x103001_1]) ?_ 0 _ rfl;(with_reducible repeat (first|refine z8 ?_ _|refine zb ?_|refine z7 ?_ _));exact BK102.out⟩,⟨by repeat (first|(with_reducible first|exact HB.out|apply zg|apply z6|apply zc|refine zd ?_ GE101.out|refine zd ?_ GE102.out)|exact HB.out)⟩⟩
end Go.Proofs.Ytklkmflhnljbdaa.P
/- The document's values. Own text. -/
namespace Go.Proofs.Ytklkmflhnljbdaa.Sp
open Go.RowKit Go.Proofs.YtklkmflhnljbdaaW.PrintWords Go.Proofs.YtklkmflhnljbdaaW.PrintMore Go.Proofs.Ytklkmflhnljbdaa.P Go.Proofs.Ytklkmflhnljbdaa.Ar Go.Proofs.Ytklkmflhnljbdaa.Tw
set_option linter.unusedVariables false
set_option linter.unusedSimpArgs false
theorem value_l0 (X P : List E) (hX : X.length ≤ 1000000) (hP : P.length ≤ 1000000) : ∀ (d i : Nat), i + d = X.length →
    Ev (fun q => zB.l0 q (X.map toR) (P.map toR) (i : Int) (hi (sumN (fun i => X.getD i 0 * weight P i) i)) (lo (sumN (fun i => X.getD i 0 * weight P i) i))) (hi (value X P), lo (value X P)) := by
  intro d
  induction d with
  | zero =>
    intro i hid
    have : i = X.length := by omega
    subst this
    have hno : ¬ ((X.length : Int) < ((X.map toR).length : Int)) := by rw [List.length_map]; omega
    refine Ev.step (fun q => by rw [zB.l0]) (Ev.neg hno ?_)
    exact Ev.ret' rfl
  | succ d ih =>
    intro i hid
    have hi' : i < X.length := by omega
    refine Ev.step (fun q => by rw [zB.l0]) (Ev.pos (by rw [List.length_map]; omega) (Ev.pos (Int.natCast_nonneg _) (Ev.bnd (z7F P hP i (by omega)) ?_)))
    simp only [rdR, z6j, z6k, z1M hi' (show X.length ≤ 4611686018427387904 by omega)]
    refine Ev.bnd (z3z _ _) (Ev.bnd0 (z4k _ _) ?_)
    exact ih (i + 1) (by omega)
theorem value_ev (X P : List E) (hX : X.length ≤ 1000000) (hP : P.length ≤ 1000000) : Ev (fun q => zB.f q (X.map toR) (P.map toR)) (hi (value X P), lo (value X P)) := by
  have := value_l0 X P hX hP X.length 0 (by omega)
  rw [sumN, z2Z, z30] at this
  exact this
end Go.Proofs.Ytklkmflhnljbdaa.Sp
namespace Go.Proofs.Ytklkmflhnljbdaa.P
open Go.RowKit Go.Proofs.YtklkmflhnljbdaaW.PrintWords Go.Proofs.YtklkmflhnljbdaaW.PrintLast Go.Proofs.YtklkmflhnljbdaaW.PrintMore
attribute [local go_sem] z17 z19 z1m z1n zU zV z18 z1a   -- for this text's walks alone
set_option linter.unusedVariables false
set_option linter.unusedSimpArgs false
mutual
def zz.j0 : Nat → Int → List (S48) → List (S48) → Bool → Option (Int)
 | 0,_,_,_,_=>none
 | k + 1,x0,x1,x2,x12=>if x12 = true then (some 1) else ((zG.f k x0).bind fun t101=>(if (x1.length : Int) = t101 then (zz.j1 k x0 x1 x2 ((x2.length : Int) != x0)) else (zz.j1 k x0 x1 x2 true)))
def zz.j1 : Nat → Int → List (S48) → List (S48) → Bool → Option (Int)
 | 0,_,_,_,_=>none
 | k + 1,x0,x1,x2,x23=>if x23 = true then (some 6) else ((zn.f k x0 x1).bind fun t102=>(if t102 = true then ((zn.f k x0 x2).bind fun t103=>(if t103 = true then (some 0) else (some 5))) else (some 5)))
end
def zz.f (k : Nat) (a0 : Int) (l1 : List (S48)) (l2 : List (S48)) : Option (Int):=if a0 < 0 then (zz.j0 k a0 l1 l2 true) else (zz.j0 k a0 l1 l2 (decide (a0 > 7)))
theorem zz.z1b : ∀ k,(∀ y0 y1 y2 y3,LeO (zz.j0 k y0 y1 y2 y3) (zz.j0 (k + 1) y0 y1 y2 y3)) ∧ (∀ y0 y1 y2 y3,LeO (zz.j1 k y0 y1 y2 y3) (zz.j1 (k + 1) y0 y1 y2 y3))
 | 0=>⟨fun _ _ _ _ r h=>by simp [zz.j0] at h,fun _ _ _ _ r h=>by simp [zz.j1] at h⟩
 | k + 1=>by
  obtain ⟨ih0,ih1⟩:=zz.z1b k
  refine ⟨?_,?_⟩
  · intro y0 y1 y2 y3
    unfold zz.j0
    repeat' first
    | (with_reducible exact ih0 _ _ _ _)
    | (with_reducible exact ih1 _ _ _ _)
    | (with_reducible exact zn.mono _ _ _)
    | (with_reducible exact zG.mono _ _)
    | (with_reducible exact LeO.refl _)
    | (with_reducible exact LeO.none _)
    | (with_reducible refine LeO.ite ?_ ?_)
    | (with_reducible refine LeO.bind ?_ (fun _=>?_))
    | exact ih0 _ _ _ _
    | exact ih1 _ _ _ _
    | exact zn.mono _ _ _
    | exact zG.mono _ _
    | exact LeO.none _
    | refine LeO.ite ?_ ?_
    | refine LeO.bind ?_ (fun _=>?_)
  · intro y0 y1 y2 y3
    unfold zz.j1
    repeat' first
    | (with_reducible exact ih0 _ _ _ _)
    | (with_reducible exact ih1 _ _ _ _)
    | (with_reducible exact zn.mono _ _ _)
    | (with_reducible exact zG.mono _ _)
    | (with_reducible exact LeO.refl _)
    | (with_reducible exact LeO.none _)
    | (with_reducible refine LeO.ite ?_ ?_)
    | (with_reducible refine LeO.bind ?_ (fun _=>?_))
    | exact ih0 _ _ _ _
    | exact ih1 _ _ _ _
    | exact zn.mono _ _ _
    | exact zG.mono _ _
    | exact LeO.none _
    | refine LeO.ite ?_ ?_
    | refine LeO.bind ?_ (fun _=>?_)
theorem zz.mono : ∀ a0 a1 a2 k,LeO (zz.f k a0 a1 a2) (zz.f (k + 1) a0 a1 a2):=by
 intro a0 a1 a2 k
 obtain ⟨ih0,ih1⟩:=zz.z1b k
 unfold zz.f
 repeat' first
  | (with_reducible exact ih0 _ _ _ _)
  | (with_reducible exact ih1 _ _ _ _)
  | (with_reducible exact zn.mono _ _ _)
  | (with_reducible exact zG.mono _ _)
  | (with_reducible exact LeO.refl _)
  | (with_reducible exact LeO.none _)
  | (with_reducible refine LeO.ite ?_ ?_)
  | (with_reducible refine LeO.bind ?_ (fun _=>?_))
  | exact ih0 _ _ _ _
  | exact ih1 _ _ _ _
  | exact zn.mono _ _ _
  | exact zG.mono _ _
  | exact LeO.none _
  | refine LeO.ite ?_ ?_
  | refine LeO.bind ?_ (fun _=>?_)
set_option maxHeartbeats 8000000 in
set_option maxRecDepth 100000 in
theorem zz.calls (k : Nat) (a0 : Int) (A1 : Option Addr) (c1 : Nat) (l1 : List (S48)) (A2 : Option Addr) (c2 : Nat) (l2 : List (S48)) (r : Int) (w : World) (hr1 : Kd.C k48 w A1 l1.length l1) (hc1 : l1.length ≤ c1) (hr2 : Kd.C k48 w A2 l2.length l2) (hc2 : l2.length ≤ c2) (h : zz.f k a0 l1 l2 = some r) :
 Calls Try.prog 26 #[.int .i64 a0,.slice A1 l1.length c1,.slice A2 l2.length c2] w fun e w'=>e = .returned (.int .i64 r) ∧ Below w.heap.size w w':=by
 have HR1:=z4.mk hr1
 have HC1:=z4.mk hc1
 clear hr1 hc1
 have HR2:=z4.mk hr2
 have HC2:=z4.mk hc2
 clear hr2 hc2
 have HB:=z4.mk (Below.refl w.heap.size w)
 have H : (if a0 < 0 then (zz.j0 k a0 l1 l2 true) else (zz.j0 k a0 l1 l2 (decide (a0 > 7)))) = some r:=h
 clear h
 have HC4:=z4.mk H
 clear H
 go_enter Try.func26,Try.ntmps26
 go_upto_region 1 with (fail)
 go_cut [12] (fun v12 wc=>∃ (kq : Nat) (x12_3 : Bool),v12 = .bool x12_3 ∧ z4 (zz.j0 kq a0 l1 l2 x12_3 = some r) ∧ z4 (kq ≤ k) ∧ z4 (Below w.heap.size w wc))
 case first =>
  have H:=HC4.out
  clear HC4
  by_cases c5 : a0 < 0
  rotate_left
  · rw [if_neg c5] at H
    have c5b0 : decide (a0 < 0) = false:=decide_eq_false c5
    clear c5
    (first|rw [c5b0]|(simp only [zY,z16];rw [c5b0])|skip)
    have H':=z4.mk H
    clear H
    go_wp2
    go_meet
    case rel=>exact ⟨_,(decide (a0 > 7)),zz81,H',⟨by first|omega|exact Nat.le_refl _⟩,⟨by repeat (first|(with_reducible first|exact HB.out|apply zg|apply z6|apply zc)|exact HB.out)⟩⟩
  rw [if_pos c5] at H
  have c5b0 : decide (a0 < 0) = true:=decide_eq_true c5
  clear c5
  (first|rw [c5b0]|(simp only [zY,z16];rw [c5b0])|skip)
  have H':=z4.mk H
  clear H
  go_wp2
  go_meet
  case rel=>exact ⟨_,(true),zz81,H',⟨by first|omega|exact Nat.le_refl _⟩,⟨by repeat (first|(with_reducible first|exact HB.out|apply zg|apply z6|apply zc)|exact HB.out)⟩⟩
 case rest =>
  clear HC4
  (try clear c1);(try clear c2);(try clear p2);(try clear c5);(try clear c5b0)
  obtain ⟨kq,x12_3,rfl,HA,HJ3,HB⟩:=hcut
  cases kq with
  | zero=>exact absurd HA.out (by simp [zz.j0])
  | succ kj3 =>
   have H:=HA.out
   clear HA
   simp only [zz.j0] at H
   by_cases c6 : x12_3 = true
   · subst c6
     have H1 : (some 1) = some r:=by rw [if_pos rfl] at H;exact H
     clear H
     have H:=H1
     clear H1
     obtain rfl:=Option.some.inj H
     go_wp2
     go_ret
     exact ⟨by first|rfl|(simp [zi,zj] <;> rfl)|(simp [*,zi,zj] <;> rfl),by repeat (first|(with_reducible first|exact HB.out|apply zg|apply z6|apply zc)|exact HB.out)⟩
   replace c6:=Bool.eq_false_iff.mpr c6
   subst c6
   have H1 : ((zG.f kj3 a0).bind fun t101=>(if (l1.length : Int) = t101 then (zz.j1 kj3 a0 l1 l2 ((l2.length : Int) != a0)) else (zz.j1 kj3 a0 l1 l2 true))) = some r:=by rw [if_neg (show ¬ (false = true) by decide)] at H;exact H
   clear H
   have H:=H1
   clear H1
   have HC7:=z4.mk H
   clear H
   go_upto_region 3 with (fail)
   go_cut [23] (fun v23 wc=>∃ (kq : Nat) (x23_6 : Bool),v23 = .bool x23_6 ∧ z4 (zz.j1 kq a0 l1 l2 x23_6 = some r) ∧ z4 (kq ≤ kj3) ∧ z4 (Below w.heap.size w wc))
   case first =>
    have H:=HC7.out
    clear HC7
    replace H:=Option.bind_eq_some_iff.mp H
    obtain ⟨t101,A80,H⟩:=H
    replace H : (if (l1.length : Int) = t101 then (zz.j1 kj3 a0 l1 l2 ((l2.length : Int) != a0)) else (zz.j1 kj3 a0 l1 l2 true)) = some r:=H
    have A8:=z4.mk A80
    clear A80
    by_cases c9 : (l1.length : Int) = t101
    rotate_left
    · rw [if_neg c9] at H
      have c9b0 : ((l1.length : Int) == t101) = false:=beq_eq_false_iff_ne.mpr c9
      have c9b1 : ((l1.length : Int) != t101) = true:=bne_iff_ne.mpr c9
      (first|rw [c9b0]|(simp only [zY,z16];rw [c9b0])|skip)
      have H':=z4.mk H
      clear H
      go_wp2_with (first|((with_reducible refine zl (f:=49) rfl ?_);refine goesL_ (some 16) rfl rfl Try.func49 zz84 rfl #[.int .i64 a0] rfl zz44 ?_;(with_reducible refine (zG.calls kj3 a0 t101 _ A8.out).mono ?_);rintro e w' ⟨rfl,⟨nd,rfl⟩⟩;refine ⟨_,rfl,?_⟩))
      go_meet
      case rel=>exact ⟨_,(true),zz81,H',⟨by have:=HJ3.out;first|omega|exact Nat.le_refl _⟩,⟨by repeat (first|(with_reducible first|exact HB.out|apply zg|apply z6|apply zc)|exact HB.out)⟩⟩
    rw [if_pos c9] at H
    have c9b0 : ((l1.length : Int) == t101) = true:=beq_iff_eq.mpr c9
    have c9b1 : ((l1.length : Int) != t101) = false:=bne_eq_false_iff_eq.mpr c9
    clear c9
    (first|rw [c9b0]|(simp only [zY,z16];rw [c9b0])|skip)
    have H':=z4.mk H
    clear H
    go_wp2_with (first|((with_reducible refine zl (f:=49) rfl ?_);refine goesL_ (some 16) rfl rfl Try.func49 zz84 rfl #[.int .i64 a0] rfl zz44 ?_;(with_reducible refine (zG.calls kj3 a0 t101 _ A8.out).mono ?_);rintro e w' ⟨rfl,⟨nd,rfl⟩⟩;refine ⟨_,rfl,?_⟩))
    go_meet
    case rel=>exact ⟨_,(((l2.length : Int) != a0)),zz81,H',⟨by have:=HJ3.out;first|omega|exact Nat.le_refl _⟩,⟨by repeat (first|(with_reducible first|exact HB.out|apply zg|apply z6|apply zc)|exact HB.out)⟩⟩
   case rest =>
    clear HC7
    (try clear c1);(try clear c2);(try clear p2);(try clear c4);(try clear c5);(try clear c5b0);(try clear c6);(try clear c9);(try clear c9b0);(try clear c9b1);(try clear p2)
    obtain ⟨kq,x23_6,rfl,HA,HJ6,HB⟩:=hcut
    cases kq with
    | zero=>exact absurd HA.out (by simp [zz.j1])
    | succ kj6 =>
     have H:=HA.out
     clear HA
     simp only [zz.j1] at H
     by_cases c10 : x23_6 = true
     · subst c10
       have H1 : (some 6) = some r:=by rw [if_pos rfl] at H;exact H
       clear H
       have H:=H1
       clear H1
       obtain rfl:=Option.some.inj H
       go_wp2
       go_ret
       exact ⟨by first|rfl|(simp [zi,zj] <;> rfl)|(simp [*,zi,zj] <;> rfl),by repeat (first|(with_reducible first|exact HB.out|apply zg|apply z6|apply zc)|exact HB.out)⟩
     replace c10:=Bool.eq_false_iff.mpr c10
     subst c10
     have H1 : ((zn.f kj6 a0 l1).bind fun t102=>(if t102 = true then ((zn.f kj6 a0 l2).bind fun t103=>(if t103 = true then (some 0) else (some 5))) else (some 5))) = some r:=by rw [if_neg (show ¬ (false = true) by decide)] at H;exact H
     clear H
     have H:=H1
     clear H1
     replace H:=Option.bind_eq_some_iff.mp H
     obtain ⟨t102,A110,H⟩:=H
     replace H : (if t102 = true then ((zn.f kj6 a0 l2).bind fun t103=>(if t103 = true then (some 0) else (some 5))) else (some 5)) = some r:=H
     have A11:=z4.mk A110
     clear A110
     by_cases c12 : t102 = true
     rotate_left
     · replace c12:=Bool.eq_false_iff.mpr c12
       subst c12
       have H1 : (some 5) = some r:=by rw [if_neg (show ¬ (false = true) by decide)] at H;exact H
       clear H
       have H:=H1
       clear H1
       obtain rfl:=Option.some.inj H
       go_wp2_with (first|((with_reducible refine zl (f:=13) rfl ?_);refine goesL_ (some 26) rfl rfl Try.func13 zz84 rfl #[.int .i64 a0,.slice A1 l1.length c1] rfl zz44 ?_;(with_reducible refine (zn.calls kj6 a0 _ _ l1 false _ ?side1 ?side2 A11.out).mono ?_);(case side1=>repeat (first|exact (Kd.z1s HR1.out HB.out)|(with_reducible refine Kd.zQ ?_ _)|(with_reducible refine Kd.zR ?_ _)|(with_reducible refine Kd.z1c ?_)));(case side2=>exact HC1.out);rintro e w19 ⟨rfl,hb⟩;refine ⟨_,rfl,?_⟩;have n0_:=z4.mk (z9 zz45 hb);clear HB;have HB:=n0_;clear n0_;(try clear hb);(try clear hb2);(try clear hk);(try clear hi)))
       go_ret
       exact ⟨by first|rfl|(simp [zi,zj] <;> rfl)|(simp [*,zi,zj] <;> rfl),by repeat (first|(with_reducible first|exact HB.out|apply zg|apply z6|apply zc)|exact HB.out)⟩
     subst c12
     have H1 : ((zn.f kj6 a0 l2).bind fun t103=>(if t103 = true then (some 0) else (some 5))) = some r:=by rw [if_pos rfl] at H;exact H
     clear H
     have H:=H1
     clear H1
     replace H:=Option.bind_eq_some_iff.mp H
     obtain ⟨t103,A130,H⟩:=H
     replace H : (if t103 = true then (some 0) else (some 5)) = some r:=H
     have A13:=z4.mk A130
     clear A130
     by_cases c14 : t103 = true
     · subst c14
       have H1 : (some 0) = some r:=by rw [if_pos rfl] at H;exact H
       clear H
       have H:=H1
       clear H1
       obtain rfl:=Option.some.inj H
       go_wp2_with (first|((with_reducible refine zl (f:=13) rfl ?_);refine goesL_ (some 26) rfl rfl Try.func13 zz84 rfl #[.int .i64 a0,.slice A1 l1.length c1] rfl zz44 ?_;(with_reducible refine (zn.calls kj6 a0 _ _ l1 true _ ?side1 ?side2 A11.out).mono ?_);(case side1=>repeat (first|exact (Kd.z1s HR1.out HB.out)|(with_reducible refine Kd.zQ ?_ _)|(with_reducible refine Kd.zR ?_ _)|(with_reducible refine Kd.z1c ?_)));(case side2=>exact HC1.out);rintro e w15 ⟨rfl,hb⟩;refine ⟨_,rfl,?_⟩;have n0_:=z4.mk (z9 zz45 hb);clear HB;have HB:=n0_;clear n0_;(try clear hb);(try clear hb2);(try clear hk);(try clear hi))|(go_at_call 13;(with_reducible refine (zn.calls kj6 a0 _ _ l2 true _ ?side1 ?side2 A13.out).mono ?_);(case side1=>repeat (first|exact (Kd.z1s HR2.out HB.out)|(with_reducible refine Kd.zQ ?_ _)|(with_reducible refine Kd.zR ?_ _)|(with_reducible refine Kd.z1c ?_)));(case side2=>exact HC2.out);rintro e w16 ⟨rfl,hb⟩;have n0_:=z4.mk (z9 zz45 hb);clear HB;have HB:=n0_;clear n0_;(try clear hb);(try clear hb2);(try clear hk);(try clear hi)))
       go_ret
       exact ⟨by first|rfl|(simp [zi,zj] <;> rfl)|(simp [*,zi,zj] <;> rfl),by repeat (first|(with_reducible first|exact HB.out|apply zg|apply z6|apply zc)|exact HB.out)⟩
     replace c14:=Bool.eq_false_iff.mpr c14
     subst c14
     have H1 : (some 5) = some r:=by rw [if_neg (show ¬ (false = true) by decide)] at H;exact H
     clear H
     have H:=H1
     clear H1
     obtain rfl:=Option.some.inj H
     go_wp2_with (first|((with_reducible refine zl (f:=13) rfl ?_);refine goesL_ (some 26) rfl rfl Try.func13 zz84 rfl #[.int .i64 a0,.slice A1 l1.length c1] rfl zz44 ?_;(with_reducible refine (zn.calls kj6 a0 _ _ l1 true _ ?side1 ?side2 A11.out).mono ?_);(case side1=>repeat (first|exact (Kd.z1s HR1.out HB.out)|(with_reducible refine Kd.zQ ?_ _)|(with_reducible refine Kd.zR ?_ _)|(with_reducible refine Kd.z1c ?_)));(case side2=>exact HC1.out);rintro e w17 ⟨rfl,hb⟩;refine ⟨_,rfl,?_⟩;have n0_:=z4.mk (z9 zz45 hb);clear HB;have HB:=n0_;clear n0_;(try clear hb);(try clear hb2);(try clear hk);(try clear hi))|(go_at_call 13;(with_reducible refine (zn.calls kj6 a0 _ _ l2 false _ ?side1 ?side2 A13.out).mono ?_);(case side1=>repeat (first|exact (Kd.z1s HR2.out HB.out)|(with_reducible refine Kd.zQ ?_ _)|(with_reducible refine Kd.zR ?_ _)|(with_reducible refine Kd.z1c ?_)));(case side2=>exact HC2.out);rintro e w18 ⟨rfl,hb⟩;have n0_:=z4.mk (z9 zz45 hb);clear HB;have HB:=n0_;clear n0_;(try clear hb);(try clear hb2);(try clear hk);(try clear hi)))
     go_ret
     exact ⟨by first|rfl|(simp [zi,zj] <;> rfl)|(simp [*,zi,zj] <;> rfl),by repeat (first|(with_reducible first|exact HB.out|apply zg|apply z6|apply zc)|exact HB.out)⟩
end Go.Proofs.Ytklkmflhnljbdaa.P
/- Parts, their value at a point, and batched. Own text. -/
namespace Go.Proofs.Ytklkmflhnljbdaa.Sp
open Go.RowKit Go.Proofs.YtklkmflhnljbdaaW.PrintWords Go.Proofs.YtklkmflhnljbdaaW.PrintMore Go.Proofs.Ytklkmflhnljbdaa.P Go.Proofs.Ytklkmflhnljbdaa.Ar Go.Proofs.Ytklkmflhnljbdaa.Tw
set_option linter.unusedVariables false
theorem z3d (L : Int) : ∀ (X : List E), Ev (fun k => z14.f k L (X.map toS)) (decide (AllS L X))
  | [] => by refine Ev.ret' ?_; symm; rw [decide_eq_true_eq]; intro x hx; cases hx
  | x :: xs => by
    show Ev (fun k => (zJ.f k L (toS x).f0 (toS x).f1).bind fun b => if b = true then z14.all k L (xs.map toS) else some false) _
    refine Ev.bnd (z4z L x) ?_
    have hd : AllS L (x :: xs) ↔ OfS L x ∧ AllS L xs := List.forall_mem_cons
    by_cases c : OfS L x
    · refine Ev.pos (decide_eq_true c) ((z3d L xs).eqn ?_)
      rw [decide_eq_decide, hd]; exact ⟨fun h => ⟨c, h⟩, fun h => h.2⟩
    · refine Ev.neg (by simpa using c) (Ev.ret' ?_)
      symm; rw [decide_eq_false_iff_not, hd]; exact fun h => c h.1
/-- What hinders parts and a point. -/
def mayE (L : Int) (X P : List E) : Int := if LvS L then (if X.length = 2 ^ L.toNat ∧ (P.length : Int) = L then (if AllS L X ∧ AllS L P then 0 else 5) else 6) else 1
theorem z67 (L : Int) (X P : List E) : Ev (fun k => z1o.f k L (X.map toS) (P.map toS)) (mayE L X P) := by
  unfold z1o.f
  by_cases hL : LvS L
  rotate_left
  · have e : mayE L X P = 1 := if_neg hL
    rw [e]
    exact Ev.bnd (z3Y hL) (Ev.pos rfl (Ev.ret _))
  obtain ⟨v, hv, hw⟩ := z5a hL
  obtain ⟨l, rfl⟩ := Int.eq_ofNat_of_zero_le hL.1
  have hl : l ≤ 7 := by have := hL.2; omega
  have he : mayE (l : Int) X P = if X.length = 2 ^ l ∧ P.length = l then (if AllS (l : Int) X ∧ AllS (l : Int) P then 0 else 5) else 6 := by
    unfold mayE
    rw [if_pos hL, Int.toNat_natCast]
    by_cases c : X.length = 2 ^ l ∧ P.length = l
    · rw [if_pos c, if_pos ⟨c.1, by rw [c.2]⟩]
    · rw [if_neg c, if_neg (fun h => c ⟨h.1, by have := h.2; omega⟩)]
  rw [he]
  refine Ev.bnd hw (Ev.neg hv (Ev.pos (Int.natCast_nonneg _) ?_))
  rw [z32 l (by omega), List.length_map, List.length_map]
  have h6 : ¬ (X.length = 2 ^ l ∧ P.length = l) → Ev (fun k => z1o.j0 k (l : Int) (X.map toS) (P.map toS) true) (if X.length = 2 ^ l ∧ P.length = l then (if AllS (l : Int) X ∧ AllS (l : Int) P then 0 else 5) else 6) := by
    intro h
    rw [if_neg h]
    refine Ev.step (fun k => by rw [z1o.j0]) ?_
    exact Ev.pos rfl (Ev.ret _)
  by_cases c1 : X.length = 2 ^ l
  rotate_left
  · exact Ev.neg (by omega) (h6 (fun h => c1 h.1))
  refine Ev.pos (by omega) ?_
  by_cases c2 : P.length = l
  rotate_left
  · have : ((P.length : Int) != (l : Int)) = true := by rw [bne_iff_ne]; omega
    rw [this]
    exact h6 (fun h => c2 h.2)
  have : ((P.length : Int) != (l : Int)) = false := by rw [bne_eq_false_iff_eq]; omega
  rw [this, if_pos ⟨c1, c2⟩]
  refine Ev.step (fun k => by rw [z1o.j0]) (Ev.neg (by decide) (Ev.bnd (z3d (l : Int) X) ?_))
  by_cases cx : AllS (l : Int) X
  rotate_left
  · rw [if_neg (fun h => cx h.1)]
    exact Ev.neg (by rw [decide_eq_false cx]; exact Bool.false_ne_true) (Ev.ret _)
  refine Ev.pos (decide_eq_true cx) (Ev.bnd (z3d (l : Int) P) ?_)
  by_cases cp : AllS (l : Int) P
  · have e : (if AllS (l : Int) X ∧ AllS (l : Int) P then (0 : Int) else 5) = 0 := if_pos ⟨cx, cp⟩
    rw [e]
    exact Ev.pos (decide_eq_true cp) (Ev.ret _)
  · have e : (if AllS (l : Int) X ∧ AllS (l : Int) P then (0 : Int) else 5) = 5 := if_neg (fun h => cp h.2)
    rw [e]
    exact Ev.neg (by rw [decide_eq_false cp]; exact Bool.false_ne_true) (Ev.ret _)
theorem refTwo23_ev (L : Int) (X P : List E) (hX : X.length ≤ 1000000) (hP : P.length ≤ 1000000) : Ev (fun k => zz.f k L (X.map toR) (P.map toR)) (mayE L X P) := by
  have h1 : ¬ LvS L → Ev (fun k => zz.j0 k L (X.map toR) (P.map toR) true) (mayE L X P) := by
    intro h
    have e : mayE L X P = 1 := if_neg h
    rw [e]
    refine Ev.step (fun k => by rw [zz.j0]) ?_
    exact Ev.pos rfl (Ev.ret _)
  unfold zz.f
  by_cases g0 : L < 0
  · exact Ev.pos g0 (h1 (by unfold LvS; omega))
  refine Ev.neg g0 ?_
  by_cases g7 : L > 7
  · rw [decide_eq_true g7]; exact h1 (by unfold LvS; omega)
  rw [decide_eq_false g7]
  have hL : LvS L := ⟨by omega, by omega⟩
  obtain ⟨l, rfl⟩ := Int.eq_ofNat_of_zero_le hL.1
  have hl : l ≤ 7 := by have := hL.2; omega
  have he : mayE (l : Int) X P = if X.length = 2 ^ l ∧ P.length = l then (if AllS (l : Int) X ∧ AllS (l : Int) P then 0 else 5) else 6 := by
    unfold mayE
    rw [if_pos hL, Int.toNat_natCast]
    by_cases c : X.length = 2 ^ l ∧ P.length = l
    · rw [if_pos c, if_pos ⟨c.1, by rw [c.2]⟩]
    · rw [if_neg c, if_neg (fun h => c ⟨h.1, by have := h.2; omega⟩)]
  rw [he]
  refine Ev.step (fun k => by rw [zz.j0]) (Ev.neg (by decide) (Ev.bnd (two_ev l (by omega)) ?_))
  rw [List.length_map, List.length_map]
  have h6 : ¬ (X.length = 2 ^ l ∧ P.length = l) → Ev (fun k => zz.j1 k (l : Int) (X.map toR) (P.map toR) true) (if X.length = 2 ^ l ∧ P.length = l then (if AllS (l : Int) X ∧ AllS (l : Int) P then 0 else 5) else 6) := by
    intro h
    rw [if_neg h]
    refine Ev.step (fun k => by rw [zz.j1]) ?_
    exact Ev.pos rfl (Ev.ret _)
  by_cases c1 : X.length = 2 ^ l
  rotate_left
  · exact Ev.neg (by omega) (h6 (fun h => c1 h.1))
  refine Ev.pos (by omega) ?_
  by_cases c2 : P.length = l
  rotate_left
  · have : ((P.length : Int) != (l : Int)) = true := by rw [bne_iff_ne]; omega
    rw [this]
    exact h6 (fun h => c2 h.2)
  have : ((P.length : Int) != (l : Int)) = false := by rw [bne_eq_false_iff_eq]; omega
  rw [this, if_pos ⟨c1, c2⟩]
  refine Ev.step (fun k => by rw [zz.j1]) (Ev.neg (by decide) (Ev.bnd (z6J (l : Int) X hX) ?_))
  by_cases cx : AllS (l : Int) X
  rotate_left
  · rw [if_neg (fun h => cx h.1)]
    exact Ev.neg (by rw [decide_eq_false cx]; exact Bool.false_ne_true) (Ev.ret _)
  refine Ev.pos (decide_eq_true cx) (Ev.bnd (z6J (l : Int) P hP) ?_)
  by_cases cp : AllS (l : Int) P
  · have e : (if AllS (l : Int) X ∧ AllS (l : Int) P then (0 : Int) else 5) = 0 := if_pos ⟨cx, cp⟩
    rw [e]
    exact Ev.pos (decide_eq_true cp) (Ev.ret _)
  · have e : (if AllS (l : Int) X ∧ AllS (l : Int) P then (0 : Int) else 5) = 5 := if_neg (fun h => cp h.2)
    rw [e]
    exact Ev.neg (by rw [decide_eq_false cp]; exact Bool.false_ne_true) (Ev.ret _)
theorem may_in {L : Int} {X P : List E} (h : mayE L X P = 0) : ∃ l : Nat, L = (l : Int) ∧ l ≤ 7 ∧ X.length = 2 ^ l ∧ P.length = l ∧ AllS (l : Int) X ∧ AllS (l : Int) P := by
  unfold mayE at h
  split at h
  · next hL =>
    split at h
    · next hlen =>
      split at h
      · next hall =>
        obtain ⟨l, rfl⟩ := Int.eq_ofNat_of_zero_le hL.1
        have h1 := hlen.1
        rw [Int.toNat_natCast] at h1
        exact ⟨l, rfl, by have := hL.2; omega, h1, by have := hlen.2; omega, hall.1, hall.2⟩
      · omega
    · omega
  · omega
theorem z4w {l : Nat} (hl : l ≤ 7) (P : List E) (hP : AllS (l : Int) P) : AllS (l : Int) (weightsL P) := z58 hl _ _ (fun i _ => z36 hl P i (z5L hP))
theorem z7C (X P : List E) (h : X.length = 2 ^ P.length) : sumN (fun j => (weightsL P).getD j 0 * X.getD j 0) (weightsL P).length = value X P := by
  unfold value
  have hw : (weightsL P).length = 2 ^ P.length := z15 _ _
  rw [hw, h]
  apply z1F
  intro i hi'
  have : (weightsL P).getD i 0 = weight P i := z1P _ _ i hi'
  rw [this, mul_comm]
theorem Value23_ev (L : Int) (X P : List E) : Ev (fun k => z1x.f k L (X.map toS) (P.map toS)) (if mayE L X P = 0 then (hi (value X P), lo (value X P), 0) else (0, 0, mayE L X P)) := by
  unfold z1x.f
  refine Ev.bnd (z67 L X P) ?_
  by_cases c : mayE L X P = 0
  rotate_left
  · rw [if_neg c]
    exact Ev.neg c (Ev.ret _)
  rw [if_pos c]
  obtain ⟨l, rfl, hl, hX, hP, aX, aP⟩ := may_in c
  have h128 := w128 hl
  have hw := z3A (l : Int) P
  have e1 : weightsO (l : Int) P = weightsL P := if_pos ⟨⟨by omega, by omega⟩, by omega, aP⟩
  rw [e1] at hw
  have hwl : (weightsL P).length = X.length := by
    have : (weightsL P).length = 2 ^ P.length := z15 _ _
    rw [this, hX, hP]
  refine Ev.pos c (Ev.bnd hw (Ev.bnd (Dot_ev hl (weightsL P) X (z4w hl P aP) aX hwl (by omega)) (Ev.ret' ?_)))
  rw [z7C X P (by rw [hX, hP])]
/-- Parts, batched. -/
def batch (X P : List E) : E := sumN (fun u => weight P u * turnN X X.length u) X.length
theorem z5T (L : Int) (X P : List E) : Ev (fun k => z1q.f k L (X.map toS) (P.map toS)) (if mayE L X P = 0 then (hi (batch X P), lo (batch X P), 0) else (0, 0, mayE L X P)) := by
  unfold z1q.f
  refine Ev.bnd (z67 L X P) ?_
  by_cases c : mayE L X P = 0
  rotate_left
  · rw [if_neg c]
    exact Ev.neg c (Ev.ret _)
  rw [if_pos c]
  obtain ⟨l, rfl, hl, hX, hP, aX, aP⟩ := may_in c
  have h128 := w128 hl
  have hw := z3A (l : Int) P
  have e1 : weightsO (l : Int) P = weightsL P := if_pos ⟨⟨by omega, by omega⟩, by omega, aP⟩
  rw [e1] at hw
  have hin : InN (2 ^ l) X := fun x hx => z64 (aX x hx)
  have ht := Turn_ev X (by omega) (2 ^ l) h128 hin
  have hwl : (weightsL P).length = (turnL X (2 ^ l)).length := by
    have h1 : (weightsL P).length = 2 ^ P.length := z15 _ _
    have h2 : (turnL X (2 ^ l)).length = 2 ^ l := z15 _ _
    rw [h1, h2, hP]
  have hta : AllS (l : Int) (turnL X (2 ^ l)) := z58 hl _ _ (fun j _ => z57 _ _ (fun i hi' => z5N _ (z6T hl (by omega))))
  have hw2 : (weightsL P).length = X.length := by
    have : (weightsL P).length = 2 ^ P.length := z15 _ _
    rw [this, hX, hP]
  refine Ev.pos c (Ev.pos (Int.natCast_nonneg _) ?_)
  rw [z32 l (by omega)]
  refine Ev.bnd ht (Ev.bnd hw (Ev.bnd (Dot_ev hl (weightsL P) (turnL X (2 ^ l)) (z4w hl P aP) hta hwl (by omega)) (Ev.ret' ?_)))
  have e2 : sumN (fun j => (weightsL P).getD j 0 * (turnL X (2 ^ l)).getD j 0) (weightsL P).length = batch X P := by
    unfold batch
    rw [hw2]
    apply z1F
    intro u hu
    have h1 : (weightsL P).getD u 0 = weight P u := z1P _ _ u (by rw [hP, ← hX]; exact hu)
    have h2 : (turnL X (2 ^ l)).getD u 0 = turnN X X.length u := z1P _ _ u (by rw [← hX]; exact hu)
    rw [h1, h2]
  rw [e2]
end Go.Proofs.Ytklkmflhnljbdaa.Sp
/- Powers of 2 and their numbers. Own text; nothing of the program in it. -/
namespace Go.Proofs.Ytklkmflhnljbdaa.Sp
open Go.RowKit Go.Proofs.YtklkmflhnljbdaaW.PrintWords Go.Proofs.YtklkmflhnljbdaaW.PrintMore Go.Proofs.Ytklkmflhnljbdaa.P Go.Proofs.Ytklkmflhnljbdaa.Ar Go.Proofs.Ytklkmflhnljbdaa.Tw
set_option linter.unusedVariables false
set_option linter.unusedSimpArgs false
def logFrom (n : Int) (k : Nat) : Nat → Int
  | 0 => -1
  | d + 1 => if n = ((2 ^ k : Nat) : Int) then (k : Int) else logFrom n (k + 1) d
def logI (n : Int) : Int := logFrom n 0 17
theorem z4c : ∀ (d k m : Nat), k ≤ m → m < k + d → logFrom ((2 ^ m : Nat) : Int) k d = (m : Int)
  | 0, k, m, h1, h2 => by omega
  | d + 1, k, m, h1, h2 => by
    rw [logFrom]
    by_cases c : m = k
    · rw [if_pos (by rw [c]), c]
    · rw [if_neg ?_, z4c d (k + 1) m (by omega) (by omega)]
      intro e
      have e' : 2 ^ m = 2 ^ k := by omega
      exact c ((Nat.pow_right_inj (by decide)).1 e')
theorem logI_pow {m : Nat} (h : m ≤ 16) : logI ((2 ^ m : Nat) : Int) = (m : Int) := z4c 17 0 m (by omega) (by omega)
theorem z4b : ∀ (d k : Nat) (n : Int), logFrom n k d = -1 ∨ ∃ m : Nat, k ≤ m ∧ m < k + d ∧ n = ((2 ^ m : Nat) : Int) ∧ logFrom n k d = (m : Int)
  | 0, k, n => Or.inl rfl
  | d + 1, k, n => by
    rw [logFrom]
    by_cases c : n = ((2 ^ k : Nat) : Int)
    · rw [if_pos c]; exact Or.inr ⟨k, by omega, by omega, c, rfl⟩
    · rw [if_neg c]
      rcases z4b d (k + 1) n with h | ⟨m, h1, h2, h3, h4⟩
      · exact Or.inl h
      · exact Or.inr ⟨m, by omega, by omega, h3, h4⟩
theorem logI_inv (n : Int) : logI n = -1 ∨ ∃ m : Nat, m ≤ 16 ∧ n = ((2 ^ m : Nat) : Int) ∧ logI n = (m : Int) := by
  rcases z4b 17 0 n with h | ⟨m, _, h2, h3, h4⟩
  · exact Or.inl h
  · exact Or.inr ⟨m, by omega, h3, h4⟩
end Go.Proofs.Ytklkmflhnljbdaa.Sp
/- The program's Log. Own text. -/
namespace Go.Proofs.Ytklkmflhnljbdaa.Sp
open Go.RowKit Go.Proofs.YtklkmflhnljbdaaW.PrintWords Go.Proofs.YtklkmflhnljbdaaW.PrintMore Go.Proofs.Ytklkmflhnljbdaa.P Go.Proofs.Ytklkmflhnljbdaa.Ar Go.Proofs.Ytklkmflhnljbdaa.Tw
set_option linter.unusedVariables false
set_option linter.unusedSimpArgs false
theorem Log_l0 (n : Int) : ∀ (d k : Nat), k + d = 17 → Ev (fun q => z1l.l0 q n (k : Int)) (logFrom n k d) := by
  intro d
  induction d with
  | zero =>
    intro k hk
    have h17 : ¬ ((k : Int) < 17) := by omega
    refine Ev.step (fun q => by rw [z1l.l0]) (Ev.neg h17 ?_)
    exact Ev.ret' rfl
  | succ d ih =>
    intro k hk
    refine Ev.step (fun q => by rw [z1l.l0]) (Ev.pos (by omega) (Ev.pos (Int.natCast_nonneg _) ?_))
    rw [z32 k (by omega), logFrom]
    by_cases c : n = ((2 ^ k : Nat) : Int)
    · rw [if_pos c]; exact Ev.pos c (Ev.ret _)
    · rw [if_neg c]
      refine Ev.neg c ?_
      simp only [z1M (show k < 17 by omega) (by decide)]
      exact ih (k + 1) (by omega)
theorem Log_ev (n : Int) : Ev (fun q => z1l.f q n) (logI n) := Log_l0 n 17 0 (by omega)
end Go.Proofs.Ytklkmflhnljbdaa.Sp
/- The parts of bits at a high point. Own text. -/
namespace Go.Proofs.Ytklkmflhnljbdaa.Sp
open Go.RowKit Go.Proofs.YtklkmflhnljbdaaW.PrintWords Go.Proofs.YtklkmflhnljbdaaW.PrintMore Go.Proofs.Ytklkmflhnljbdaa.P Go.Proofs.Ytklkmflhnljbdaa.Ar Go.Proofs.Ytklkmflhnljbdaa.Tw
set_option linter.unusedVariables false
/-- What hinders bits. -/
def askB (L : Int) (n : Nat) : Int := if LvS L then (if logI (n : Int) < L ∨ logI (n : Int) > 12 then 6 else 0) else 1
theorem ask23_ev (L : Int) (B : List Bool) : Ev (fun k => z1R.f k L B) (askB L B.length) := by
  unfold z1R.f
  by_cases hL : LvS L
  · obtain ⟨v, hv, hw⟩ := z5a hL
    refine Ev.bnd hw (Ev.neg hv (Ev.bnd (Log_ev _) ?_))
    by_cases c1 : logI (B.length : Int) < L
    · have e : askB L B.length = 6 := by unfold askB; rw [if_pos hL, if_pos (.inl c1)]
      rw [e]
      exact Ev.pos c1 (Ev.ret _)
    · refine Ev.neg c1 ?_
      by_cases c2 : logI (B.length : Int) > 12
      · have e : askB L B.length = 6 := by unfold askB; rw [if_pos hL, if_pos (.inr c2)]
        rw [e]
        exact Ev.pos c2 (Ev.ret _)
      · have e : askB L B.length = 0 := by unfold askB; rw [if_pos hL, if_neg (by omega)]
        rw [e]
        exact Ev.neg c2 (Ev.ret _)
  · have e : askB L B.length = 1 := if_neg hL
    rw [e]
    exact Ev.bnd (z3Y hL) (Ev.pos rfl (Ev.ret _))
theorem ask_in {L : Int} {n : Nat} (h : askB L n = 0) : ∃ l m : Nat, L = (l : Int) ∧ l ≤ 7 ∧ l ≤ m ∧ m ≤ 12 ∧ n = 2 ^ m ∧ logI (n : Int) = (m : Int) := by
  unfold askB at h
  split at h
  · next hL =>
    split at h
    · omega
    · next hc =>
      obtain ⟨l, rfl⟩ := Int.eq_ofNat_of_zero_le hL.1
      rcases logI_inv (n : Int) with g | ⟨m, h1, h2, h3⟩
      · rw [g] at hc; omega
      · rw [h3] at hc
        exact ⟨l, m, rfl, by have := hL.2; omega, by omega, by omega, by omega, h3⟩
  · omega
theorem shlP (a w : Nat) (h : w ≤ 62) (hp : a * 2 ^ w ≤ 4611686018427387904) : shl .i64 (a : Int) (w : Int) = ((a * 2 ^ w : Nat) : Int) := by
  unfold shl
  have h64 : IntKind.i64.bits = 64 := rfl
  rw [h64, Int.toNat_natCast, Nat.min_eq_left (by omega)]
  have hc : (a : Int) * 2 ^ w = ((a * 2 ^ w : Nat) : Int) := by simp
  rw [hc]
  generalize a * 2 ^ w = p at hp
  exact z7b (by omega) (by omega)
/-- One column, added where a test says so. -/
def pAdd (f : Nat → E) (p : Nat → Bool) (y : E) (i k : Nat) : E := f k + pick (decide (k < i) && p k) y
theorem z7q (f : Nat → E) (p : Nat → Bool) (y : E) (k : Nat) : pAdd f p y 0 k = f k := by
  unfold pAdd
  rw [decide_eq_false (Nat.not_lt_zero k), Bool.false_and, z1p, add_zero]
theorem z7p (f : Nat → E) (p : Nat → Bool) (y : E) (i : Nat) : pAdd f p y i i = f i := by
  unfold pAdd
  rw [decide_eq_false (Nat.lt_irrefl i), Bool.false_and, z1p, add_zero]
theorem z5s (f : Nat → E) (p : Nat → Bool) (y : E) (i k : Nat) (h : k ≠ i) : pAdd f p y (i + 1) k = pAdd f p y i k := by
  unfold pAdd
  have : decide (k < i + 1) = decide (k < i) := by rw [decide_eq_decide]; omega
  rw [this]
theorem z6d (f : Nat → E) (p : Nat → Bool) (y : E) (i : Nat) : pAdd f p y (i + 1) i = f i + pick (p i) y := by
  unfold pAdd
  rw [decide_eq_true (Nat.lt_succ_self i), Bool.true_and]
theorem pAdd_end (f : Nat → E) (p : Nat → Bool) (y : E) (n k : Nat) (h : k < n) : pAdd f p y n k = f k + pick (p k) y := by
  unfold pAdd
  rw [decide_eq_true h, Bool.true_and]
/-- The parts, as far as one has come. -/
def partN (N : Nat) (B : List Bool) (H : List E) (m v : Nat) : E := sumN (fun x => pick (B.getD (x * N + v) false) (weight H x)) m
def partsL (l : Nat) (B : List Bool) (H : List E) : List E := tabL (2 ^ l) (partN (2 ^ l) B H (2 ^ H.length))
theorem parts_l1 (l : Nat) (hl : l ≤ 7) (B : List Bool) (x m : Nat) (hB : B.length = m * 2 ^ l) (hx : x < m) (hm : m ≤ 4096) (f : Nat → E) (w : E) (WS : List S37) (wl : Int) {R : List S37 × Int}
    (h : Ev (fun k => zq.l0 k (l : Int) B ((tabL (2 ^ l) (fun v => f v + pick (B.getD (x * 2 ^ l + v) false) w)).map toS) WS wl (wrap64 ((x : Int) + 1))) R) :
    ∀ (d v : Nat), v + d = 2 ^ l → Ev (fun k => zq.l1 k (l : Int) B ((tabL (2 ^ l) (pAdd f (fun v => B.getD (x * 2 ^ l + v) false) w v)).map toS) (x : Int) WS wl (x : Int) ((2 ^ l : Nat) : Int) (v : Int) (hi w) (lo w)) R := by
  have h128 := w128 hl
  have hxm : (x + 1) * 2 ^ l ≤ m * 2 ^ l := Nat.mul_le_mul_right _ hx
  have hmm : m * 2 ^ l ≤ 4096 * 128 := Nat.mul_le_mul hm h128
  rw [Nat.succ_mul] at hxm
  have hx2 : x * 2 ^ l ≤ 4096 * 128 := Nat.mul_le_mul (by omega) h128
  have hsh : shl .i64 (x : Int) (l : Int) = ((x * 2 ^ l : Nat) : Int) := shlP x l (by omega) (Nat.le_trans hx2 (by decide))
  intro d
  induction d with
  | zero =>
    intro v hv
    have : v = 2 ^ l := by omega
    subst this
    refine Ev.step (fun k => by rw [zq.l1]) (Ev.neg (Int.lt_irrefl _) ?_)
    rw [z1G _ (fun q hq => pAdd_end f (fun v => B.getD (x * 2 ^ l + v) false) w (2 ^ l) q hq)]
    exact h
  | succ d ih =>
    intro v hv
    have hv' : v < 2 ^ l := by omega
    have hih := ih (v + 1) (by omega)
    have hg : (tabL (2 ^ l) (pAdd f (fun v => B.getD (x * 2 ^ l + v) false) w v)).getD v 0 = f v := by rw [z1P _ _ v hv', z7p]
    have c3 : (v : Int) < (((tabL (2 ^ l) (pAdd f (fun v => B.getD (x * 2 ^ l + v) false) w v)).map toS).length : Int) := by rw [List.length_map, z15]; omega
    have hadd : wrap64 (((x * 2 ^ l : Nat) : Int) + (v : Int)) = ((x * 2 ^ l + v : Nat) : Int) := z7E (by omega) (by omega)
    have hs : wrap64 ((v : Int) + 1) = ((v + 1 : Nat) : Int) := z1M hv' (by omega)
    refine Ev.step (fun k => by rw [zq.l1]) (Ev.pos (by omega) (Ev.pos (Int.natCast_nonneg _) ?_))
    rw [hsh, hadd, hs]
    have d1 : (0 : Int) ≤ ((x * 2 ^ l + v : Nat) : Int) := Int.natCast_nonneg _
    have d2 : ((x * 2 ^ l + v : Nat) : Int) < (B.length : Int) := Int.ofNat_lt.2 (by rw [hB]; exact Nat.lt_of_lt_of_le (Nat.add_lt_add_left hv' _) hxm)
    refine Ev.pos d1 ?_
    refine Ev.pos d2 ?_
    rw [z5P]
    cases c : B.getD (x * 2 ^ l + v) false with
    | true =>
      refine Ev.pos rfl (Ev.pos (Int.natCast_nonneg _) (Ev.pos c3 ?_))
      simp only [rdS, hg, z2L, z2M]
      refine Ev.bnd0 (z5d _ _) ?_
      have e : ((tabL (2 ^ l) (pAdd f (fun v => B.getD (x * 2 ^ l + v) false) w v)).map toS).set (v : Int).toNat (⟨hi (f v + w), lo (f v + w)⟩ : S37) = (tabL (2 ^ l) (pAdd f (fun v => B.getD (x * 2 ^ l + v) false) w (v + 1))).map toS := by
        rw [Int.toNat_natCast, z5A, map_set]
        have hn2 := z6d f (fun v => B.getD (x * 2 ^ l + v) false) w v
        rw [c, z1I] at hn2
        rw [← hn2, z3w _ _ _ v hv' (fun q _ hne => z5s f (fun v => B.getD (x * 2 ^ l + v) false) w v q hne)]
      simp only [e]
      exact hih
    | false =>
      refine Ev.neg Bool.false_ne_true ?_
      have e : tabL (2 ^ l) (pAdd f (fun v => B.getD (x * 2 ^ l + v) false) w (v + 1)) = tabL (2 ^ l) (pAdd f (fun v => B.getD (x * 2 ^ l + v) false) w v) := by
        apply z1G
        intro q _
        by_cases cq : q = v
        · subst cq; rw [z6d, c, z1p, add_zero, z7p]
        · exact z5s f (fun v => B.getD (x * 2 ^ l + v) false) w v q cq
      rw [← e]; exact hih
theorem parts_l0 (l : Nat) (hl : l ≤ 7) (B : List Bool) (H : List E) (m : Nat) (hH : m = 2 ^ H.length) (hB : B.length = m * 2 ^ l) (hm : m ≤ 4096) : ∀ (d x : Nat), x + d = m →
    Ev (fun k => zq.l0 k (l : Int) B ((tabL (2 ^ l) (partN (2 ^ l) B H x)).map toS) ((weightsL H).map toS) (m : Int) (x : Int)) ((partsL l B H).map toS, 0) := by
  have hwl : (weightsL H).length = m := by rw [hH]; exact z15 _ _
  intro d
  induction d with
  | zero =>
    intro x hid
    have : x = m := by omega
    subst this
    refine Ev.step (fun k => by rw [zq.l0]) ?_
    refine Ev.neg (Int.lt_irrefl _) (Ev.ret' ?_)
    unfold partsL; rw [← hH]
  | succ d ih =>
    intro x hid
    have hx : x < m := by omega
    have hih := ih (x + 1) (by omega)
    have c3 : (x : Int) < (((weightsL H).map toS).length : Int) := by rw [List.length_map, hwl]; omega
    have hw : (weightsL H).getD x 0 = weight H x := z1P _ _ x (by rw [← hH]; exact hx)
    refine Ev.step (fun k => by rw [zq.l0]) (Ev.pos (by omega) (Ev.pos (Int.natCast_nonneg _) (Ev.pos c3 ?_)))
    simp only [rdS, hw, z2L, z2M]
    rw [List.length_map, z15]
    have e0 : tabL (2 ^ l) (partN (2 ^ l) B H x) = tabL (2 ^ l) (pAdd (partN (2 ^ l) B H x) (fun v => B.getD (x * 2 ^ l + v) false) (weight H x) 0) := z1G _ (fun q _ => (z7q _ _ _ q).symm)
    rw [e0]
    refine parts_l1 l hl B x m hB hx hm (partN (2 ^ l) B H x) (weight H x) _ _ ?_ (2 ^ l) 0 (Nat.zero_add _)
    rw [z1M hx (by omega)]
    have e1 : tabL (2 ^ l) (fun v => partN (2 ^ l) B H x v + pick (B.getD (x * 2 ^ l + v) false) (weight H x)) = tabL (2 ^ l) (partN (2 ^ l) B H (x + 1)) := z1G _ (fun q _ => by
      show _ = sumN _ (x + 1)
      rw [sumN]; rfl)
    rw [e1]
    exact hih
/-- The parts, or the error. -/
def partsE (L : Int) (B : List Bool) (H : List E) : Int := if askB L B.length = 0 then (if (H.length : Int) = logI (B.length : Int) - L then (if AllS L H then 0 else 5) else 6) else askB L B.length
theorem parts_in {L : Int} {B : List Bool} {H : List E} (h : partsE L B H = 0) : ∃ l : Nat, L = (l : Int) ∧ l ≤ 7 ∧ l + H.length ≤ 12 ∧ B.length = 2 ^ H.length * 2 ^ l ∧ AllS (l : Int) H := by
  unfold partsE at h
  by_cases c : askB L B.length = 0
  · rw [if_pos c] at h
    obtain ⟨l, m, rfl, hl, hlm, hm, hn, hg⟩ := ask_in c
    rw [hg] at h
    by_cases c2 : (H.length : Int) = (m : Int) - (l : Int)
    · rw [if_pos c2] at h
      by_cases c3 : AllS (l : Int) H
      · exact ⟨l, rfl, hl, by omega, by rw [hn, ← Nat.pow_add]; congr 1; omega, c3⟩
      · rw [if_neg c3] at h; cases h
    · rw [if_neg c2] at h; cases h
  · rw [if_neg c] at h; exact absurd h c
def partsO (L : Int) (B : List Bool) (H : List E) : List E := if partsE L B H = 0 then partsL L.toNat B H else []
theorem Parts_ev (L : Int) (B : List Bool) (H : List E) : Ev (fun k => zq.f k L B (H.map toS)) ((partsO L B H).map toS, partsE L B H) := by
  unfold zq.f
  refine Ev.bnd (ask23_ev L B) ?_
  by_cases c : askB L B.length = 0
  rotate_left
  · have e1 : partsE L B H = askB L B.length := if_neg c
    have e2 : partsO L B H = [] := if_neg (by rw [e1]; exact c)
    rw [e1, e2]
    exact Ev.neg c (Ev.ret _)
  refine Ev.pos c (Ev.bnd (Log_ev _) ?_)
  obtain ⟨l, m, rfl, hl, hlm, hm, hn, hg⟩ := ask_in c
  rw [hg, List.length_map, z28 (x := (m : Int) - (l : Int)) (by omega) (by omega)]
  by_cases c2 : (H.length : Int) = (m : Int) - (l : Int)
  rotate_left
  · have e1 : partsE (l : Int) B H = 6 := by unfold partsE; rw [if_pos c, hg, if_neg c2]
    have e2 : partsO (l : Int) B H = [] := if_neg (by rw [e1]; decide)
    rw [e1, e2]
    exact Ev.neg c2 (Ev.ret _)
  refine Ev.pos c2 (Ev.bnd (z3d (l : Int) H) ?_)
  by_cases c3 : AllS (l : Int) H
  rotate_left
  · have e1 : partsE (l : Int) B H = 5 := by unfold partsE; rw [if_pos c, hg, if_pos c2, if_neg c3]
    have e2 : partsO (l : Int) B H = [] := if_neg (by rw [e1]; decide)
    rw [e1, e2]
    exact Ev.neg (by rw [decide_eq_false c3]; exact Bool.false_ne_true) (Ev.ret _)
  have e1 : partsE (l : Int) B H = 0 := by unfold partsE; rw [if_pos c, hg, if_pos c2, if_pos c3]
  have e2 : partsO (l : Int) B H = partsL l B H := by unfold partsO; rw [if_pos e1, Int.toNat_natCast]
  rw [e1, e2]
  have h128 := w128 hl
  have hw := z3A (l : Int) H
  have ew : weightsO (l : Int) H = weightsL H := if_pos ⟨⟨by omega, by omega⟩, by omega, c3⟩
  rw [ew] at hw
  have hwl : (weightsL H).length = 2 ^ H.length := z15 _ _
  refine Ev.pos (decide_eq_true c3) (Ev.pos (Int.natCast_nonneg _) ?_)
  rw [z32 l (by omega)]
  refine Ev.pos (Int.natCast_nonneg _) ?_
  refine Ev.pos (show ((2 ^ l : Nat) : Int).toNat ≤ 17592186044416 by rw [Int.toNat_natCast]; omega) (Ev.bnd hw ?_)
  rw [List.length_map, hwl, Int.toNat_natCast, z3V, z2D]
  have e0 : tabL (2 ^ l) (fun _ => (0 : E)) = tabL (2 ^ l) (partN (2 ^ l) B H 0) := rfl
  rw [e0]
  have hp : (2 : Nat) ^ H.length ≤ 4096 := Nat.pow_le_pow_right (n := 2) (by decide) (show H.length ≤ 12 by omega)
  exact parts_l0 l hl B H (2 ^ H.length) rfl (by rw [hn, ← Nat.pow_add]; congr 1; omega) hp (2 ^ H.length) 0 (Nat.zero_add _)
theorem z53 (l : Nat) (B : List Bool) (H : List E) : (partsL l B H).length = 2 ^ l := z15 _ _
theorem z6D {l : Nat} (hl : l ≤ 7) (B : List Bool) {H : List E} (hH : AllS (l : Int) H) : AllS (l : Int) (partsL l B H) :=
  z58 hl _ _ (fun v _ => z57 _ _ (fun x _ => z5N _ (z36 hl H x (z5L hH))))
end Go.Proofs.Ytklkmflhnljbdaa.Sp
/- Bits turned about twice are as they were. Own text. -/
namespace Go.Proofs.Ytklkmflhnljbdaa.Sp
open Go.RowKit Go.Proofs.YtklkmflhnljbdaaW.PrintWords Go.Proofs.YtklkmflhnljbdaaW.PrintMore Go.Proofs.Ytklkmflhnljbdaa.P Go.Proofs.Ytklkmflhnljbdaa.Ar Go.Proofs.Ytklkmflhnljbdaa.Tw
set_option linter.unusedVariables false
/-- The bits of a sum of bits. -/
theorem z3g (b : Nat → Bool) : ∀ n, n ≤ 128 → (val (sumN (fun u => pick (b u) (bitE u)) n) < 2 ^ n ∧ ∀ j, j < n → hasB (sumN (fun u => pick (b u) (bitE u)) n) j = b j)
  | 0, _ => ⟨by rw [sumN, z1N]; decide, fun j hj => by omega⟩
  | n + 1, h => by
    obtain ⟨h1, h2⟩ := z3g b n (by omega)
    have hp : (2 : Nat) ^ (n + 1) = 2 ^ n + 2 ^ n := by rw [Nat.pow_succ, Nat.mul_two]
    have hv : val (sumN (fun u => pick (b u) (bitE u)) (n + 1)) = val (sumN (fun u => pick (b u) (bitE u)) n) ^^^ (if b n then 2 ^ n else 0) := by
      rw [sumN, z1U, z6m, z3W (by omega)]
    refine ⟨?_, fun j hj => ?_⟩
    · rw [hv]
      refine Nat.xor_lt_two_pow (by omega) ?_
      split <;> omega
    · have hj2 : hasB (sumN (fun u => pick (b u) (bitE u)) (n + 1)) j = (hasB (sumN (fun u => pick (b u) (bitE u)) n) j ^^ (if b n then 2 ^ n else 0 : Nat).testBit j) := by
        show (val _).testBit j = _
        rw [hv, Nat.testBit_xor]; rfl
      rw [hj2]
      by_cases c : j = n
      · subst c
        have h0 : hasB (sumN (fun u => pick (b u) (bitE u)) j) j = false := Nat.testBit_lt_two_pow h1
        rw [h0, Bool.false_xor]
        cases hb : b j with
        | true => rw [if_pos rfl, Nat.testBit_two_pow_self]
        | false => rw [if_neg Bool.false_ne_true, Nat.zero_testBit]
      · rw [h2 j (by omega)]
        have : (if b n then 2 ^ n else 0 : Nat).testBit j = false := by
          cases b n with
          | true => rw [if_pos rfl, Nat.testBit_two_pow]; simp; omega
          | false => rw [if_neg Bool.false_ne_true, Nat.zero_testBit]
        rw [this, Bool.xor_false]
theorem z4S (X : List E) (hX : X.length ≤ 128) (n : Nat) (hn : n ≤ 128) (hin : InN n X) : turnL (turnL X n) X.length = X ∧ InN X.length (turnL X n) := by
  have hl : (turnL X n).length = n := z15 _ _
  refine ⟨?_, ?_⟩
  · refine z3m (X := turnL (turnL X n) X.length) (Y := X) (z15 _ _) ?_
    intro i hi'
    have hi2 : i < X.length := by
      have : (turnL (turnL X n) X.length).length = X.length := z15 _ _
      omega
    have hg : X.getD i 0 ∈ X := by
      rw [List.getD_eq_getElem?_getD, List.getElem?_eq_getElem hi2]; exact List.getElem_mem hi2
    have h1 : (turnL (turnL X n) X.length).getD i 0 = turnN (turnL X n) (turnL X n).length i := z1P _ _ i hi2
    rw [h1, hl]
    have h2 : turnN (turnL X n) n i = sumN (fun j => pick (hasB (X.getD i 0) j) (bitE j)) n := by
      unfold turnN
      apply z1F
      intro j hj
      have h3 : (turnL X n).getD j 0 = turnN X X.length j := z1P _ _ j hj
      rw [h3]
      unfold turnN
      rw [(z3g (fun u => hasB (X.getD u 0) j) X.length hX).2 i hi2]
    rw [h2]
    apply z2E
    rw [z3F _ n hn, Nat.mod_eq_of_lt (hin _ hg)]
  · intro x hx
    unfold turnL tabL at hx
    obtain ⟨j, _, rfl⟩ := List.mem_map.1 hx
    exact (z3g (fun u => hasB (X.getD u 0) j) X.length hX).1
end Go.Proofs.Ytklkmflhnljbdaa.Sp
/- The tower's levels are fields: what is not 0 has an inverse. Own text; nothing of the program in it. -/
namespace Go.Proofs.Ytklkmflhnljbdaa.Tw
set_option linter.unusedVariables false
set_option linter.unusedSimpArgs false
/-- The trace. -/
def tr : {n : Nat} → T n → Bool
  | 0, a => a
  | n + 1, a => tr (a.1 * gen n)
theorem tr_add : {n : Nat} → (a b : T n) → tr (a + b) = (tr a ^^ tr b)
  | 0, a, b => rfl
  | n + 1, a, b => by
    show tr ((a + b).1 * gen n) = (tr (a.1 * gen n) ^^ tr (b.1 * gen n))
    rw [z3B, add_mul, tr_add]
theorem tr_sq : {n : Nat} → (a : T n) → tr (a * a) = tr a
  | 0, a => Bool.and_self a
  | n + 1, a => by
    show tr ((a * a).1 * gen n) = tr (a.1 * gen n)
    have h : (a * a).1 * gen n = (a.1 * gen n) * (a.1 * gen n) := by
      rw [z2a, mul_comm a.2 a.1, z21, zero_add]
      simp only [mul_assoc, mul_comm, z23]
    rw [h, tr_sq]
theorem tr_gen : (n : Nat) → tr (gen n) = true
  | 0 => rfl
  | n + 1 => by
    show tr ((gen (n + 1)).1 * gen n) = true
    rw [z2u, one_mul, tr_gen n]
/-- The generator has an inverse, and its trace is 1. -/
theorem gen_inv : (n : Nat) → ∃ h : T n, gen n * h = 1 ∧ tr h = true
  | 0 => ⟨true, rfl, rfl⟩
  | n + 1 => by
    refine ⟨mk 1 (gen n), ext ?_ ?_, ?_⟩
    · rw [z2a, z2u, z2C, z2k, z2r, z4e, one_mul, zero_mul, add_zero, one_mul, mul_one, z21]
    · rw [z2f, z2u, z2C, z2k, z2r, z4f, one_mul, zero_mul, zero_add]
    · show tr ((1 : T n) * gen n) = true
      rw [one_mul, tr_gen n]
theorem one_ne : (n : Nat) → (1 : T n) ≠ 0
  | n => fun h => by
    have := z2F n
    rw [h, z1N] at this
    cases this
/-- There is no t with t t + t g = 1. -/
theorem no_root {n : Nat} (t : T n) : t * t + t * gen n ≠ 1 := by
  intro e
  obtain ⟨h, h1, h2⟩ := gen_inv n
  have e1 : (t * h) * (t * h) + t * h = h * h := by
    have a1 : t * h = t * gen n * (h * h) := by
      rw [mul_assoc t, ← mul_assoc (gen n), h1, one_mul]
    have a2 : (t * h) * (t * h) = t * t * (h * h) := by
      simp only [mul_assoc, mul_comm, z23]
    rw [a2]
    conv => lhs; rhs; rw [a1]
    rw [← add_mul, e, one_mul]
  have e2 := congrArg tr e1
  rw [tr_add, tr_sq, tr_sq, h2, Bool.xor_self] at e2
  cases e2
/-- What is not 0 has an inverse. -/
theorem z79 : (n : Nat) → ∀ a : T n, a ≠ 0 → ∃ b, a * b = 1
  | 0, a, h => ⟨true, by cases a with
    | true => rfl
    | false => exact absurd rfl h⟩
  | n + 1, z, hz => by
    have ih := z79 n
    have hN : z.2 * (z.2 + z.1 * gen n) + z.1 * z.1 ≠ 0 := by
      intro e
      by_cases ha : z.1 = 0
      · rw [ha, zero_mul, zero_mul, add_zero, add_zero] at e
        have hb : z.2 ≠ 0 := fun hb => hz (ext ha hb)
        obtain ⟨b, hb1⟩ := ih _ hb
        have e2 : z.2 * z.2 * (b * b) = 1 := by
          have : z.2 * z.2 * (b * b) = (z.2 * b) * (z.2 * b) := by simp only [mul_assoc, mul_comm, z23]
          rw [this, hb1, one_mul]
        rw [e, zero_mul] at e2
        exact one_ne n e2.symm
      · obtain ⟨c, hc⟩ := ih _ ha
        have e2 : (z.2 * (z.2 + z.1 * gen n) + z.1 * z.1) * (c * c) = (z.2 * c) * (z.2 * c) + (z.2 * c) * gen n + 1 := by
          have a1 : z.1 * z.1 * (c * c) = 1 := by
            have : z.1 * z.1 * (c * c) = (z.1 * c) * (z.1 * c) := by simp only [mul_assoc, mul_comm, z23]
            rw [this, hc, one_mul]
          have a2 : z.2 * (z.1 * gen n) * (c * c) = (z.2 * c) * gen n := by
            have : z.2 * (z.1 * gen n) * (c * c) = (z.1 * c) * ((z.2 * c) * gen n) := by simp only [mul_assoc, mul_comm, z23]
            rw [this, hc, one_mul]
          have a3 : z.2 * z.2 * (c * c) = (z.2 * c) * (z.2 * c) := by simp only [mul_assoc, mul_comm, z23]
          rw [add_mul, mul_add, add_mul, a1, a2, a3]
        rw [e, zero_mul] at e2
        exact no_root (z.2 * c) (z2m e2.symm)
    obtain ⟨m, hm⟩ := ih _ hN
    have hz2 : z * mk z.1 (z.2 + z.1 * gen n) = up (z.2 * (z.2 + z.1 * gen n) + z.1 * z.1) := by
      refine ext ?_ ?_
      · rw [z2a, z2k, z2r, z35]
        simp only [mul_add, mul_comm, z23, add_comm, z1X, add_assoc, z21, z3H, add_zero, zero_add]
        rw [mul_assoc, z21]
      · rw [z2f, z2k, z2r, z4q]
    exact ⟨mk z.1 (z.2 + z.1 * gen n) * up m, by rw [← mul_assoc, hz2, ← z7A, hm, up_one]⟩
theorem z5M {n : Nat} {a b : T n} (h : a * b = 0) : a = 0 ∨ b = 0 := by
  by_cases ha : a = 0
  · exact .inl ha
  · obtain ⟨c, hc⟩ := z79 n a ha
    right
    have : c * (a * b) = b := by rw [← mul_assoc, mul_comm c a, hc, one_mul]
    rw [← this, h, mul_zero]
end Go.Proofs.Ytklkmflhnljbdaa.Tw
/- Counting where two lists of parts have the same batch. Own text; nothing of the program in it. -/
namespace Go.Proofs.Ytklkmflhnljbdaa.Sp
open Go.RowKit Go.Proofs.YtklkmflhnljbdaaW.PrintWords Go.Proofs.YtklkmflhnljbdaaW.PrintMore Go.Proofs.Ytklkmflhnljbdaa.P Go.Proofs.Ytklkmflhnljbdaa.Ar Go.Proofs.Ytklkmflhnljbdaa.Tw
set_option linter.unusedVariables false
/-- For how many numbers below n a test says so. -/
def cntP (p : Nat → Bool) : Nat → Nat
  | 0 => 0
  | n + 1 => cntP p n + (if p n = true then 1 else 0)
theorem z5J (p : Nat → Bool) : ∀ n, cntP p n ≤ n
  | 0 => Nat.le_refl _
  | n + 1 => by
    have := z5J p n
    rw [cntP]; split <;> omega
theorem z5i (p : Nat → Bool) : ∀ n, (∀ i, i < n → p i = false) → cntP p n = 0
  | 0, _ => rfl
  | n + 1, h => by rw [cntP, z5i p n (fun i hi' => h i (by omega)), h n (by omega)]; rfl
theorem z3S (p : Nat → Bool) : ∀ n, (∀ i j, i < n → j < n → p i = true → p j = true → i = j) → cntP p n ≤ 1
  | 0, _ => Nat.zero_le _
  | n + 1, h => by
    have ih := z3S p n (fun i j h1 h2 => h i j (by omega) (by omega))
    rw [cntP]
    by_cases c : p n = true
    · have : cntP p n = 0 := z5i p n (fun i hi' => by
        cases ci : p i with
        | false => rfl
        | true => have := h i n (by omega) (by omega) ci c; omega)
      rw [this, if_pos c]; exact Nat.le_refl _
    · rw [if_neg c]; omega
theorem z5Y (p : Nat → Bool) (m : Nat) : ∀ n, cntP p (m + n) = cntP p m + cntP (fun i => p (m + i)) n
  | 0 => rfl
  | n + 1 => by rw [← Nat.add_assoc, cntP, cntP, z5Y p m n, Nat.add_assoc]
theorem z6w {p q : Nat → Bool} : ∀ n, (∀ i, i < n → p i = q i) → cntP p n = cntP q n
  | 0, _ => rfl
  | n + 1, h => by rw [cntP, cntP, z6w n (fun i hi' => h i (by omega)), h n (by omega)]
/-- Block by block: one each, but where it is bad. -/
theorem z46 (p bad : Nat → Bool) (s : Nat) (hs : 1 ≤ s) : ∀ m, (∀ j, j < m → bad j = false → cntP (fun i => p (s * j + i)) s ≤ 1) → cntP p (s * m) ≤ m + (s - 1) * cntP bad m
  | 0, _ => by rw [Nat.mul_zero]; exact Nat.zero_le _
  | m + 1, h => by
    have ih := z46 p bad s hs m (fun j hj => h j (by omega))
    rw [Nat.mul_succ, z5Y, cntP]
    cases c : bad m with
    | false =>
      have := h m (by omega) c
      have e : (s - 1) * (cntP bad m + 0) = (s - 1) * cntP bad m := rfl
      rw [if_neg Bool.false_ne_true, e]; omega
    | true =>
      have := z5J (fun i => p (s * m + i)) s
      rw [if_pos rfl, Nat.mul_add, Nat.mul_one]; omega
/-- A line that is 0 at two places is 0. -/
theorem z3p {a b x y : E} (h1 : (1 + a) * x + a * y = 0) (h2 : (1 + b) * x + b * y = 0) (h : a ≠ b) : x = 0 ∧ y = 0 := by
  have e : ∀ c : E, (1 + c) * x + c * y = x + c * (x + y) := fun c => by rw [add_mul, one_mul, mul_add, add_assoc]
  rw [e] at h1 h2
  have h3 : a * (x + y) = b * (x + y) := by rw [← z2m h1, ← z2m h2]
  have h4 : (a + b) * (x + y) = 0 := by rw [add_mul, h3, z21]
  rcases z5M h4 with g | g
  · exact absurd (z2m g) h
  · rw [g, mul_zero, add_zero] at h1
    exact ⟨h1, by rw [h1, zero_add] at g; exact g⟩
/-- How two lists of parts differ, turned. -/
def diffN (X Y : List E) (n u : Nat) : E := turnN X n u + turnN Y n u
theorem z75 {X Y : List E} {n : Nat} (hn : n ≤ 128) (hX : X.length = n) (hY : Y.length = n) (iX : InN n X) (iY : InN n Y) (h : X ≠ Y) : ∃ u, u < n ∧ diffN X Y n u ≠ 0 := by
  apply Classical.byContradiction
  intro g
  have hz : ∀ u, u < n → turnN X n u = turnN Y n u := by
    intro u hu
    apply Classical.byContradiction
    intro c
    exact g ⟨u, hu, fun e => c (z2m e)⟩
  have ht : turnL X n = turnL Y n := by
    unfold turnL
    rw [hX, hY]
    exact z1G _ hz
  have h1 := (z4S X (by omega) n hn iX).1
  have h2 := (z4S Y (by omega) n hn iY).1
  rw [ht, hX] at h1
  rw [hY] at h2
  exact h (h1.symm.trans h2)
theorem z6t (X Y R : List E) {n : Nat} (hX : X.length = n) (hY : Y.length = n) : batch X R + batch Y R = sumN (fun u => weight R u * diffN X Y n u) n := by
  unfold batch
  rw [hX, hY, ← z2S]
  exact z1F _ (fun u _ => (mul_add _ _ _).symm)
theorem z4H (X Y R : List E) {n : Nat} (hX : X.length = n) (hY : Y.length = n) : batch X R = batch Y R ↔ sumN (fun u => weight R u * diffN X Y n u) n = 0 := by
  rw [← z6t X Y R hX hY]
  exact ⟨fun h => by rw [h, z21], z2m⟩
theorem sum_two (D : Nat → E) (a : E) : sumN (fun u => weight [a] u * D u) 2 = (1 + a) * D 0 + a * D 1 := by
  rw [sumN, sumN, sumN, zero_add]
  show (1 + a) * 1 * D 0 + a * 1 * D 1 = _
  rw [mul_one, mul_one]
theorem sum_four (D : Nat → E) (a b : E) : sumN (fun u => weight [a, b] u * D u) 4 = (1 + a) * ((1 + b) * D 0 + b * D 2) + a * ((1 + b) * D 1 + b * D 3) := by
  rw [sumN, sumN, sumN, sumN, sumN, zero_add]
  show (1 + a) * ((1 + b) * 1) * D 0 + a * ((1 + b) * 1) * D 1 + (1 + a) * (b * 1) * D 2 + a * (b * 1) * D 3 = _
  rw [mul_one, mul_one]
  generalize 1 + a = p
  generalize 1 + b = q
  simp only [mul_add, mul_assoc, add_assoc, z1X, add_comm]
/-- The element with this number. -/
def elN (m : Nat) : E := el 0 (m : Int)
theorem elN_hi (m : Nat) : hi (elN m) = 0 := hi_el (by decide) (by decide)
theorem z5Z (m : Nat) (h : m < 18446744073709551616) : lo (elN m) = (m : Int) := lo_el (by omega) (by omega)
theorem z5K {i j : Nat} (h1 : i < 256) (h2 : j < 256) (h : elN i = elN j) : i = j := by
  have := congrArg lo h
  rw [z5Z i (by omega), z5Z j (by omega)] at this
  omega
theorem elN_in {l m : Nat} (hl : l ≤ 6) (h : m < Q l) (h2 : m < 256) : InL l (elN m) := (z49 hl).2 ⟨elN_hi m, by rw [z5Z m (by omega), Int.toNat_natCast]; exact h⟩
/-- The lists that are gone through. -/
def rK (l s k : Nat) : List E := if l = 2 then [elN (k % s), elN (k / s)] else [elN (k % s)]
def sameK (l s : Nat) (X Y : List E) (k : Nat) : Bool := decide (batch X (rK l s k) = batch Y (rK l s k))
theorem z71 (X Y : List E) (hX : X.length = 2) (hY : Y.length = 2) (iX : InN 2 X) (iY : InN 2 Y) (h : X ≠ Y) : cntP (sameK 1 4 X Y) 4 ≤ 1 := by
  obtain ⟨u, hu, hd⟩ := z75 (by decide) hX hY iX iY h
  have key : ∀ i, i < 4 → sameK 1 4 X Y i = true → (1 + elN i) * diffN X Y 2 0 + elN i * diffN X Y 2 1 = 0 := by
    intro i hi' h1
    have h2 := of_decide_eq_true h1
    have hr : rK 1 4 i = [elN i] := by
      unfold rK; rw [if_neg (by decide), Nat.mod_eq_of_lt hi']
    rw [hr, z4H X Y _ hX hY, sum_two] at h2
    exact h2
  apply z3S
  intro i j h1 h2 p1 p2
  apply Classical.byContradiction
  intro c
  obtain ⟨z0, z1⟩ := z3p (key i h1 p1) (key j h2 p2) (fun e => c (z5K (by omega) (by omega) e))
  apply hd
  have : u = 0 ∨ u = 1 := by omega
  rcases this with rfl | rfl
  · exact z0
  · exact z1
theorem z72 (X Y : List E) (hX : X.length = 4) (hY : Y.length = 4) (iX : InN 4 X) (iY : InN 4 Y) (h : X ≠ Y) : cntP (sameK 2 16 X Y) 256 ≤ 32 := by
  obtain ⟨u, hu, hd⟩ := z75 (by decide) hX hY iX iY h
  have key : ∀ i j, i < 16 → j < 16 → sameK 2 16 X Y (16 * j + i) = true → (1 + elN i) * ((1 + elN j) * diffN X Y 4 0 + elN j * diffN X Y 4 2) + elN i * ((1 + elN j) * diffN X Y 4 1 + elN j * diffN X Y 4 3) = 0 := by
    intro i j hi' hj h1
    have h2 := of_decide_eq_true h1
    have hr : rK 2 16 (16 * j + i) = [elN i, elN j] := by
      unfold rK
      rw [if_pos rfl, show (16 * j + i) % 16 = i by omega, show (16 * j + i) / 16 = j by omega]
    rw [hr, z4H X Y _ hX hY, sum_four] at h2
    exact h2
  have hb := z46 (sameK 2 16 X Y) (fun j => decide ((1 + elN j) * diffN X Y 4 0 + elN j * diffN X Y 4 2 = 0 ∧ (1 + elN j) * diffN X Y 4 1 + elN j * diffN X Y 4 3 = 0)) 16 (by decide) 16 (fun j hj hbad => by
    apply z3S
    intro i i2 h1 h2 p1 p2
    apply Classical.byContradiction
    intro c
    exact of_decide_eq_false hbad (z3p (key i j h1 hj p1) (key i2 j h2 hj p2) (fun e => c (z5K (by omega) (by omega) e))))
  have hc : cntP (fun j => decide ((1 + elN j) * diffN X Y 4 0 + elN j * diffN X Y 4 2 = 0 ∧ (1 + elN j) * diffN X Y 4 1 + elN j * diffN X Y 4 3 = 0)) 16 ≤ 1 := by
    apply z3S
    intro i j h1 h2 p1 p2
    apply Classical.byContradiction
    intro c
    have q1 := of_decide_eq_true p1
    have q2 := of_decide_eq_true p2
    have hne : elN i ≠ elN j := fun e => c (z5K (by omega) (by omega) e)
    obtain ⟨z0, z2⟩ := z3p q1.1 q2.1 hne
    obtain ⟨z1, z3⟩ := z3p q1.2 q2.2 hne
    apply hd
    have : u = 0 ∨ u = 1 ∨ u = 2 ∨ u = 3 := by omega
    rcases this with rfl | rfl | rfl | rfl
    · exact z0
    · exact z1
    · exact z2
    · exact z3
  have : 16 * 16 = 256 := rfl
  rw [this] at hb
  omega
end Go.Proofs.Ytklkmflhnljbdaa.Sp
namespace Go.Proofs.Ytklkmflhnljbdaa.Sp
open Go.RowKit Go.Proofs.YtklkmflhnljbdaaW.PrintWords Go.Proofs.YtklkmflhnljbdaaW.PrintMore Go.Proofs.Ytklkmflhnljbdaa.P Go.Proofs.Ytklkmflhnljbdaa.Ar Go.Proofs.Ytklkmflhnljbdaa.Tw
set_option linter.unusedVariables false
theorem z3f : Ev (fun k => zE.f k) true := Ev.of zE.mono (k := 60) (by decide +kernel)
theorem z7y (m : Nat) (h : m < 256) : IntKind.u64.wrap (m : Int) = (m : Int) := z2N (by omega) (by omega)
theorem w64_nat (m : Nat) (h : m < 256) : wrap64 (m : Int) = (m : Int) := z28 (by omega) (by omega)
theorem elN_mk (m : Nat) (h : m < 256) : (⟨0, (m : Int)⟩ : S37) = toS (elN m) := by
  unfold toS; rw [elN_hi, z5Z m (by omega)]
theorem z4I {l : Nat} {X R : List E} (hl : l ≤ 7) (hX : X.length = 2 ^ l) (hR : R.length = l) (aX : AllS (l : Int) X) (aR : AllS (l : Int) R) : mayE (l : Int) X R = 0 := by
  unfold mayE
  rw [if_pos ⟨by omega, by omega⟩, Int.toNat_natCast, if_pos ⟨hX, by rw [hR]⟩, if_pos ⟨aX, aR⟩]
theorem z5j (l s all : Nat) (hc : (l = 1 ∧ s = 4 ∧ all = 4) ∨ (l = 2 ∧ s = 16 ∧ all = 256)) (X Y : List E) (hX : X.length = 2 ^ l) (hY : Y.length = 2 ^ l) (aX : AllS (l : Int) X) (aY : AllS (l : Int) Y)
    (hn : cntP (sameK l s X Y) all ≤ l * (all / s)) : ∀ (d k : Nat), k + d = all →
    Ev (fun q => z5.l0 q (l : Int) (Y.map toS) (X.map toS) (s : Int) (all : Int) ((cntP (sameK l s X Y) k : Nat) : Int) (k : Int)) true := by
  have hl : l ≤ 2 := by omega
  have hs : s ≠ 0 := by omega
  have hall : all ≤ 256 := by omega
  intro d
  induction d with
  | zero =>
    intro k hk
    have : k = all := by omega
    subst this
    refine Ev.step (fun q => by rw [z5.l0]) (Ev.neg (Int.lt_irrefl _) (Ev.bnd z3f (Ev.pos rfl (Ev.neg (show ¬ ((s : Int) = 0) by omega) (Ev.ret' ?_)))))
    rw [decide_eq_true_eq]
    have e : wrap64 ((l : Int) * wrap64 (Int.tdiv (k : Int) (s : Int))) = ((l * (k / s) : Nat) : Int) := by
      rcases hc with ⟨rfl, rfl, rfl⟩ | ⟨rfl, rfl, rfl⟩ <;> decide +kernel
    rw [e]; omega
  | succ d ih =>
    intro k hk
    have hk' : k < all := by omega
    have hih := ih (k + 1) (by omega)
    have hms : k % s < s := Nat.mod_lt _ (by omega)
    have hds : k / s < 256 := Nat.lt_of_le_of_lt (Nat.div_le_self _ _) (by omega)
    have hR : (rK l s k).length = l := by
      unfold rK
      rcases hc with ⟨rfl, rfl, rfl⟩ | ⟨rfl, rfl, rfl⟩ <;> rfl
    have hd16 : l = 2 → k / s < 16 := by
      rcases hc with ⟨rfl, rfl, rfl⟩ | ⟨rfl, rfl, rfl⟩
      · intro h; cases h
      · intro _; omega
    have hq : s ≤ Q l := by
      rcases hc with ⟨rfl, rfl, rfl⟩ | ⟨rfl, rfl, rfl⟩ <;> decide
    have a1 : InL l (elN (k % s)) := elN_in (by omega) (by omega) (by omega)
    have aR : AllS (l : Int) (rK l s k) := by
      unfold rK
      intro x hx
      by_cases c : l = 2
      · rw [if_pos c] at hx
        have a2 : InL l (elN (k / s)) := elN_in (by omega) (by have := hd16 c; rw [c]; exact Nat.lt_of_lt_of_le this (by decide)) (by omega)
        rcases List.mem_cons.1 hx with rfl | hx
        · exact z69 (by omega) a1
        · rcases List.mem_cons.1 hx with rfl | hx
          · exact z69 (by omega) a2
          · cases hx
      · rw [if_neg c] at hx
        rcases List.mem_cons.1 hx with rfl | hx
        · exact z69 (by omega) a1
        · cases hx
    have m1 := z4I (by omega) hX hR aX aR
    have m2 := z4I (by omega) hY hR aY aR
    have b1 := z5T (l : Int) X (rK l s k)
    have b2 := z5T (l : Int) Y (rK l s k)
    rw [if_pos m1] at b1
    rw [if_pos m2] at b2
    have hj : Ev (fun q => z5.j4 q (l : Int) (Y.map toS) (X.map toS) (s : Int) (all : Int) ((cntP (sameK l s X Y) k : Nat) : Int) (k : Int) ((rK l s k).map toS)) true := by
      refine Ev.step (fun q => by rw [z5.j4]) (Ev.bnd b1 (Ev.bnd b2 (Ev.pos rfl ?_)))
      have e0 : ((0 : Int) != 0) = false := rfl
      simp only [e0]
      have hcl := z5J (sameK l s X Y) k
      have hw : wrap64 (((cntP (sameK l s X Y) k : Nat) : Int) + 1) = ((cntP (sameK l s X Y) k + 1 : Nat) : Int) := by rw [z28 (by omega) (by omega)]; omega
      have hw2 : wrap64 ((k : Int) + 1) = ((k + 1 : Nat) : Int) := z1M hk' (by omega)
      refine Ev.step (fun q => by rw [z5.j5]) (Ev.neg (by decide) ?_)
      rw [z76, hw, hw2]
      rw [cntP] at hih
      cases c : sameK l s X Y k with
      | true =>
        rw [if_pos c] at hih
        exact Ev.pos c hih
      | false =>
        rw [if_neg (by rw [c]; exact Bool.false_ne_true), Nat.add_zero] at hih
        exact Ev.neg (by rw [show decide (batch X (rK l s k) = batch Y (rK l s k)) = false from c]; exact Bool.false_ne_true) hih
    refine Ev.step (fun q => by rw [z5.l0]) (Ev.pos (by omega) (Ev.neg (by omega) ?_))
    have w1 : wrap64 ((k / s : Nat) : Int) = ((k / s : Nat) : Int) := w64_nat _ hds
    have w2 : IntKind.u64.wrap ((k % s : Nat) : Int) = ((k % s : Nat) : Int) := z7y _ (Nat.lt_of_lt_of_le hms (by omega))
    have w3 : IntKind.u64.wrap ((k / s : Nat) : Int) = ((k / s : Nat) : Int) := z7y _ hds
    have w4 := elN_mk (k % s) (Nat.lt_of_lt_of_le hms (by omega))
    have w5 := elN_mk (k / s) hds
    have t1 : Int.tmod (k : Int) (s : Int) = ((k % s : Nat) : Int) := rfl
    have t2 : Int.tdiv (k : Int) (s : Int) = ((k / s : Nat) : Int) := rfl
    rw [t1, t2, w1, w2, w3, w4, w5]
    clear w1 w2 w3 w4 w5 t1 t2
    refine Ev.bnd0 (a := [toS (elN (k % s))]) rfl ?_
    by_cases c : l = 2
    · have hr : (rK l s k).map toS = [toS (elN (k % s))] ++ [toS (elN (k / s))] := by unfold rK; rw [if_pos c]; rfl
      rw [hr] at hj
      exact Ev.pos (by omega) (Ev.pos (by simp) hj)
    · have hr : (rK l s k).map toS = [toS (elN (k % s))] := by unfold rK; rw [if_neg c]; rfl
      rw [hr] at hj
      exact Ev.neg (by omega) hj
theorem z74 (l : Nat) (hl : l = 1 ∨ l = 2) (X Y : List E) (hX : X.length = 2 ^ l) (hY : Y.length = 2 ^ l) (aX : AllS (l : Int) X) (aY : AllS (l : Int) Y) (h : X ≠ Y) :
    Ev (fun q => z5.j1 q (l : Int) (Y.map toS) (X.map toS) false) true := by
  have iX : InN (2 ^ l) X := fun x hx => z64 (aX x hx)
  have iY : InN (2 ^ l) Y := fun x hx => z64 (aY x hx)
  refine Ev.step (fun q => by rw [z5.j1]) (Ev.neg (by decide) (Ev.bnd0 (a := ([2, 4, 16] : List Int)) rfl ?_))
  rcases hl with rfl | rfl
  · refine Ev.pos (by decide) (Ev.pos (by decide) (Ev.neg (by decide) ?_))
    refine Ev.step (fun q => by rw [z5.j2]) ?_
    exact z5j 1 4 4 (.inl ⟨rfl, rfl, rfl⟩) X Y hX hY aX aY (z71 X Y hX hY iX iY h) 4 0 rfl
  · refine Ev.pos (by decide) (Ev.pos (by decide) (Ev.pos rfl ?_))
    have e1 : rd ([2, 4, 16] : List Int) ((2 : Nat) : Int) = ((16 : Nat) : Int) := rfl
    have e2 : wrap64 (((16 : Nat) : Int) * ((16 : Nat) : Int)) = ((256 : Nat) : Int) := by decide +kernel
    rw [e1, e2]
    refine Ev.step (fun q => by rw [z5.j2]) ?_
    exact z5j 2 16 256 (.inr ⟨rfl, rfl, rfl⟩) X Y hX hY aX aY (z72 X Y hX hY iX iY h) 256 0 rfl
theorem z6x (L : Int) (Y : List E) (B : List Bool) (W H : List S37) : Ev (fun q => z5.j0 q L (Y.map toS) true B W H) true := by
  refine Ev.step (fun q => by rw [z5.j0]) ?_
  exact Ev.pos rfl (Ev.bnd z3f (Ev.ret _))
theorem z73 (l : Nat) (hl : l = 1 ∨ l = 2) (Y : List E) (hY : Y.length = 2 ^ l) (aY : AllS (l : Int) Y) (B : List Bool) (W : List S37) (H : List E) :
    Ev (fun q => z5.j0 q (l : Int) (Y.map toS) false B W (H.map toS)) true := by
  have hyes : ∀ (P : List S37), Ev (fun q => z5.j1 q (l : Int) (Y.map toS) P true) true := fun P => by
    refine Ev.step (fun q => by rw [z5.j1]) ?_
    exact Ev.pos rfl (Ev.bnd z3f (Ev.ret _))
  refine Ev.step (fun q => by rw [z5.j0]) (Ev.neg (by decide) (Ev.bnd (Parts_ev (l : Int) B H) ?_))
  by_cases c : partsE (l : Int) B H = 0
  rotate_left
  · exact Ev.neg c (hyes _)
  have eo : partsO (l : Int) B H = partsL l B H := by unfold partsO; rw [if_pos c, Int.toNat_natCast]
  obtain ⟨l', hl', h7, h12, hB, aH⟩ := parts_in c
  have : l' = l := by omega
  subst this
  have hp := z53 l' B H
  have hpl : (partsL l' B H).length ≤ 1000000 := by rw [hp]; have := w128 h7; omega
  have hYl : Y.length ≤ 1000000 := by rw [hY]; have := w128 h7; omega
  rw [eo]
  refine Ev.pos c (Ev.bnd (Ref_ev Y hYl) (Ev.bnd (Same_ev _ _ hpl) ?_))
  by_cases cs : partsL l' B H = Y
  · rw [decide_eq_true cs]; exact hyes _
  · rw [decide_eq_false cs]
    exact z74 l' hl _ Y hp hY (z6D h7 B aH) aY cs
end Go.Proofs.Ytklkmflhnljbdaa.Sp
namespace Go.Proofs.Ytklkmflhnljbdaa.Pure
open Go.RowKit Go.Proofs.YtklkmflhnljbdaaW.PrintWords Go.Proofs.YtklkmflhnljbdaaW.PrintMore Go.Proofs.Ytklkmflhnljbdaa.P Go.Proofs.Ytklkmflhnljbdaa.Ar Go.Proofs.Ytklkmflhnljbdaa.Tw Go.Proofs.Ytklkmflhnljbdaa.Sp
set_option linter.unusedVariables false
theorem RingCounts : Stated.ringCounts.Pure := by
  intro L x l2 h0 h1 h2
  obtain ⟨B, W, H⟩ := x
  obtain ⟨H, rfl⟩ := z7i H h1.2.2.1
  obtain ⟨Y, rfl⟩ := z7i l2 h2.1
  refine Ev.rounds (g := fun k => z5.f k L B W (H.map toS) (Y.map toS)) ?_
  unfold z5.f
  simp only [List.length_map]
  have hT := z6x L Y B W (H.map toS)
  by_cases c1 : L < 1
  · exact Ev.pos c1 hT
  refine Ev.neg c1 ?_
  by_cases c2 : L > 2
  · exact Ev.pos c2 hT
  refine Ev.neg c2 ?_
  by_cases c3 : (B.length : Int) > 32
  · exact Ev.pos c3 hT
  refine Ev.neg c3 ?_
  by_cases c4 : (H.length : Int) > 6
  · exact Ev.pos c4 hT
  refine Ev.neg c4 ?_
  obtain ⟨l, rfl⟩ := Int.eq_ofNat_of_zero_le (show 0 ≤ L by omega)
  have hl : l = 1 ∨ l = 2 := by omega
  refine Ev.bnd0 (a := ([1, 2, 4] : List Int)) rfl (Ev.pos (Int.natCast_nonneg _) (Ev.pos (by simp; omega) ?_))
  have hr : rd ([1, 2, 4] : List Int) (l : Int) = ((2 ^ l : Nat) : Int) := by
    rcases hl with rfl | rfl <;> rfl
  rw [hr]
  by_cases c5 : (Y.length : Int) = ((2 ^ l : Nat) : Int)
  rotate_left
  · exact Ev.neg c5 hT
  have hY : Y.length = 2 ^ l := by omega
  have hYl : Y.length ≤ 1000000 := by rw [hY]; rcases hl with rfl | rfl <;> decide
  refine Ev.pos c5 (Ev.bnd (Ref_ev Y hYl) (Ev.bnd (z6J (l : Int) Y hYl) ?_))
  by_cases c6 : AllS (l : Int) Y
  · rw [decide_eq_true c6]
    exact z73 l hl Y hY c6 B W H
  · rw [decide_eq_false c6]
    exact hT
end Go.Proofs.Ytklkmflhnljbdaa.Pure
-- Own text, written by wip/tools/gen.py: the row of the law RingCounts, out of its pure statement (PureRingCounts) and the walk.
namespace Go.Proofs.Ytklkmflhnljbdaa.ringCounts
open Go.ChangeShapes Go.WideShapes Go.ChangeAt Go.RowKit Go.Proofs.YtklkmflhnljbdaaW.PrintWords Go.Proofs.Ytklkmflhnljbdaa.P Go.Proofs.Ytklkmflhnljbdaa.Reads
set_option linter.unusedVariables false
set_option linter.unusedSimpArgs false
theorem own : ownKnob Try.prog.godebug = none := by kernel_rfl
theorem laidOut : laidOutB Try.prog = true := by kernel_rfl
theorem op22 : ReadsAs Try.prog 22 (Kd.slice 4 Kd.bool) (fun l => (∀ x_ ∈ l, True) ∧ l.length ≤ maxLen) := z6b Try.underlying22 (by kernel_rfl) (op_bool Try.underlying4)
theorem op37 : ReadsAs Try.prog 37 k37 (fun x => ((Lit.int .u64 x.f0).wf = true) ∧ ((Lit.int .u64 x.f1).wf = true)) :=
  (z5q (fun x : S37 => (x.f0, x.f1)) (fun a => ⟨⟨a.1, a.2⟩, rfl⟩) Try.underlying37 rfl (by kernel_rfl) (z4g (by kernel_rfl) (by kernel_rfl) (z7n Try.underlying35) (z5r (by kernel_rfl) (by kernel_rfl) (z7n Try.underlying35)) (by intro g hg; simp only [List.mem_cons, List.not_mem_nil, or_false] at hg; rcases hg with rfl <;> exact of_decide_eq_true (by kernel_rfl))))
theorem op23 : ReadsAs Try.prog 23 (Kd.slice 37 k37) (fun l => (∀ x_ ∈ l, ((Lit.int .u64 x_.f0).wf = true) ∧ ((Lit.int .u64 x_.f1).wf = true)) ∧ l.length ≤ maxLen) := z6b Try.underlying23 (by kernel_rfl) op37
theorem op25 : ReadsAs Try.prog 25 k25 (fun x => (((∀ x_ ∈ x.f0, True) ∧ x.f0.length ≤ maxLen)) ∧ (((∀ x_ ∈ x.f1, ((Lit.int .u64 x_.f0).wf = true) ∧ ((Lit.int .u64 x_.f1).wf = true)) ∧ x.f1.length ≤ maxLen)) ∧ (((∀ x_ ∈ x.f2, ((Lit.int .u64 x_.f0).wf = true) ∧ ((Lit.int .u64 x_.f1).wf = true)) ∧ x.f2.length ≤ maxLen))) :=
  (z5q (fun x : S25 => (x.f0, x.f1, x.f2)) (fun a => ⟨⟨a.1, a.2.1, a.2.2⟩, rfl⟩) Try.underlying25 rfl (by kernel_rfl) (z4g (by kernel_rfl) (by kernel_rfl) op22 (z4g (by kernel_rfl) (by kernel_rfl) op23 (z5r (by kernel_rfl) (by kernel_rfl) op23) (by intro g hg; simp only [List.mem_cons, List.not_mem_nil, or_false] at hg; rcases hg with rfl <;> exact of_decide_eq_true (by kernel_rfl))) (by intro g hg; simp only [List.mem_cons, List.not_mem_nil, or_false] at hg; rcases hg with rfl | rfl <;> exact of_decide_eq_true (by kernel_rfl))))
set_option maxRecDepth 100000 in
theorem lifted (os : Os) (started : os.Started) (H : Type) (enc : TypeId × Value → H) :
    ReturnsInHanded {} Try.checked os 3 .any (Rows.ringCountsSpec.pre6 enc Try.prog Try.f3 Rows.ringCountsRow.domain false) (Rows.ringCountsSpec.post enc Try.prog Try.f3 false true false false) := by
  refine returnsInHanded_of_change_sized (C := Try.checked) own started (by kernel_rfl) Try.func3
    (ChangeSpec.witness6 (enc := enc) (C := Try.checked) false ⟨#[], #[.int .i64 0, .agg #[.slice none 0 0, .slice none 0 0, .slice none 0 0], .slice none 0 0], []⟩ 8 (by kernel_rfl) (by kernel_rfl) (by kernel_rfl) (by kernel_rfl)) ?_
  intro W base args ds gs before hval0 hW hcnd hsz0 _
  have hval : ∀ (j : Nat) t v, Try.f3.params[j]? = some t → args[j]? = some v → Value.okWide Try.prog W .any base t v := hval0
  have hW' := hW
  obtain ⟨p, q, hA0, hV, rfl, hfz, hnd⟩ := hW
  have hA : DataW.TrodAll enc Try.prog W 0 (fun _ => true) true Try.f3.params.toList args.toList ds p := hA0
  rw [Try.params3] at hA hval
  obtain ⟨v0, vs0, d0, ds0, p0, q0, hargs, rfl, rfl, h0, r0⟩ := trodAll_cons hA
  obtain ⟨v1, vs1, d1, ds1, p1, q1, rfl, rfl, rfl, h1, r1⟩ := trodAll_cons r0
  obtain ⟨v2, vs2, d2, ds2, p2, q2, rfl, rfl, rfl, h2, r2⟩ := trodAll_cons r1
  obtain ⟨rfl, rfl, rfl⟩ := trodAll_nil r2
  obtain rfl : args = #[v0, v1, v2] := by cases args; simp_all
  obtain ⟨rfl, rfl⟩ := trodVars_none hV
  have k0 := h0
  have lt0 : ∀ x ∈ p0, x.block < W.heap.size := by obtain ⟨m, hm⟩ := k0; exact DataW.trod_lt m _ _ _ hm
  obtain ⟨x0, rfl, g0⟩ := arg_int Try.underlying3 (hval 0 3 v0 rfl rfl) h0
  have k1 := h1
  have lt1 : ∀ x ∈ p1, x.block < W.heap.size := by obtain ⟨m, hm⟩ := k1; exact DataW.trod_lt m _ _ _ hm
  obtain ⟨x1, cs1, rfl, hK1, g1⟩ := z6s op25 Try.underlying25 (hval 1 25 v1 rfl rfl) h1
  obtain ⟨A1_0, c1_0, A1_1, c1_1, A1_2, c1_2, rfl, l1_0, r1_0, l1_1, r1_1, l1_2, r1_2⟩ := z3c hK1
  have k2 := h2
  have lt2 : ∀ x ∈ p2, x.block < W.heap.size := by obtain ⟨m, hm⟩ := k2; exact DataW.trod_lt m _ _ _ hm
  obtain ⟨x2, A2, c2, rfl, hc2, hr2, g2⟩ := z6R op23 Try.underlying23 (hval 2 23 v2 rfl rfl) h2
  clear hA0 hval0 hsz0
  obtain ⟨k, hpure⟩ := Pure.RingCounts x0 x1 x2 g0 g1 g2
  refine (z5.calls k x0 _ _ x1.f0 _ _ x1.f1 _ _ x1.f2 _ _ x2 true W r1_0 l1_0 r1_1 l1_1 r1_2 l1_2 hr2 hc2 hpure).mono fun e W' hh => ?_
  obtain ⟨rfl, bel0⟩ := hh
  have bel : Below W.heap.size W W' := bel0
  exact ⟨_, rfl, _, _, _, [], _, [], hW', trodAll_mk1 (shut_bool Try.underlying4 _), (trodAll_cons_mk (Below.trod laidOut (by kernel_rfl) (of_decide_eq_true (by kernel_rfl)) k0 bel lt0) (trodAll_cons_mk (Below.trod laidOut (by kernel_rfl) (of_decide_eq_true (by kernel_rfl)) k1 bel lt1) (trodAll_cons_mk (Below.trod laidOut (by kernel_rfl) (of_decide_eq_true (by kernel_rfl)) k2 bel lt2) trodAll_mk0))), rfl, bel.frame _, fun h => by cases h⟩
theorem over : Rows.ringCountsRow.holds Try.pinned (OpenSpec.ofChange Rows.ringCountsSpec) :=
  OpenClaim.holds_of_wide 3 Try.f3 rfl rfl rfl rfl rfl rfl rfl ⟨rfl, rfl, rfl, rfl, rfl⟩ rfl rfl rfl rfl rfl (by kernel_rfl) Try.func3 (by kernel_rfl)
    (of_decide_eq_true (by kernel_rfl)) (by unfold Func.isWrapper; first | (rw [if_pos (by decide +kernel)]; kernel_rfl) | (rw [if_neg (by decide +kernel)]; exact ⟨rfl, rfl⟩))
    (fun os started H enc _ => lifted os started H enc)
theorem proved : Rows.RingCountsSaid := over
#print axioms proved
end Go.Proofs.Ytklkmflhnljbdaa.ringCounts
namespace Go.Proofs.Ytklkmflhnljbdaa
/-- The row, under a short name, for the claim. -/
theorem ringCounts_holds : Rows.RingCountsSaid := ringCounts.proved
end Go.Proofs.Ytklkmflhnljbdaa

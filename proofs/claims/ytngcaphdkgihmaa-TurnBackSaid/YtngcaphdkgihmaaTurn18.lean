/- What the functions of layer 18 that speak of bits tell. Own text. -/
import Derived.Test.YtngcaphdkgihmaaTwo
import Derived.Test.YtngcaphdkgihmaaFxturnBits
import Derived.Test.YtngcaphdkgihmaaFxsteepleref18Bits
import Derived.Test.YtngcaphdkgihmaaFxsteepleref18Fits
import Derived.Test.YtngcaphdkgihmaaFxsteeplelaw18same
namespace Go.Proofs.Ytngcaphdkgihmaa.Sp
open Go.RowKit Go.Proofs.YtngcaphdkgihmaaW.PrintWords Go.Proofs.YtngcaphdkgihmaaW.PrintMore Go.Proofs.Ytngcaphdkgihmaa.P Go.Proofs.Ytngcaphdkgihmaa.Ar
set_option linter.unusedVariables false
set_option linter.unusedSimpArgs false

/-- Which turns there are. -/
def Fit (k w s : Int) : Prop := 0 ≤ k ∧ k ≤ 3 ∧ 0 ≤ w ∧ w ≤ 6 ∧ 0 ≤ s ∧ s < ((2 ^ w.toNat : Nat) : Int) ∧ (k = 0 → s = 0)
instance (k w s : Int) : Decidable (Fit k w s) := by unfold Fit; infer_instance
theorem fits_eq (k w s : Int) : turn_Fits.f k w s = some (decide (Fit k w s)) := by
  unfold turn_Fits.f
  by_cases h1 : k ≥ 0
  · rw [if_pos h1]
    by_cases h2 : k ≤ 3
    · rw [if_pos h2]
      by_cases h3 : w ≥ 0
      · rw [if_pos h3]
        by_cases h4 : w ≤ 6
        · rw [if_pos h4]
          by_cases h5 : s ≥ 0
          · rw [if_pos h5, if_pos (show 0 ≤ w from h3)]
            obtain ⟨n, rfl⟩ := Int.eq_ofNat_of_zero_le h3
            rw [shl_i64 n (by omega)]
            by_cases h6 : s < ((2 ^ n : Nat) : Int)
            · rw [if_pos h6]
              by_cases h7 : k = 0
              · rw [if_pos h7]; congr 1; rw [Bool.eq_iff_iff]; simp only [beq_iff_eq, decide_eq_true_eq]
                exact ⟨fun e => ⟨h1, h2, h3, h4, h5, by simpa using h6, fun _ => e⟩, fun h => h.2.2.2.2.2.2 h7⟩
              · rw [if_neg h7]; congr 1; symm; rw [decide_eq_true_eq]
                exact ⟨h1, h2, h3, h4, h5, by simpa using h6, fun e => absurd e h7⟩
            · rw [if_neg h6]; congr 1; symm; rw [decide_eq_false_iff_not]
              intro h; exact h6 (by simpa using h.2.2.2.2.2.1)
          · rw [if_neg h5]; congr 1; symm; rw [decide_eq_false_iff_not]; intro h; exact h5 h.2.2.2.2.1
        · rw [if_neg h4]; congr 1; symm; rw [decide_eq_false_iff_not]; intro h; exact h4 h.2.2.2.1
      · rw [if_neg h3]; congr 1; symm; rw [decide_eq_false_iff_not]; intro h; exact h3 h.2.2.1
    · rw [if_neg h2]; congr 1; symm; rw [decide_eq_false_iff_not]; intro h; exact h2 h.2.1
  · rw [if_neg h1]; congr 1; symm; rw [decide_eq_false_iff_not]; intro h; exact h1 h.1
theorem refFits_ev (k w s : Int) : Ev (fun n => steepleref18_Fits.f n k w s) (decide (Fit k w s)) := by
  unfold steepleref18_Fits.f
  by_cases h1 : k < 0
  · refine Ev.pos h1 (Ev.ret' ?_); symm; rw [decide_eq_false_iff_not]; intro h; have := h.1; omega
  refine Ev.neg h1 ?_
  by_cases h2 : k > 3
  · refine Ev.pos h2 (Ev.ret' ?_); symm; rw [decide_eq_false_iff_not]; intro h; have := h.2.1; omega
  refine Ev.neg h2 ?_
  by_cases h3 : w < 0
  · refine Ev.pos h3 (Ev.ret' ?_); symm; rw [decide_eq_false_iff_not]; intro h; have := h.2.2.1; omega
  refine Ev.neg h3 ?_
  by_cases h4 : w > 6
  · refine Ev.pos h4 (Ev.ret' ?_); symm; rw [decide_eq_false_iff_not]; intro h; have := h.2.2.2.1; omega
  refine Ev.neg h4 ?_
  by_cases h5 : s < 0
  · refine Ev.pos h5 (Ev.ret' ?_); symm; rw [decide_eq_false_iff_not]; intro h; have := h.2.2.2.2.1; omega
  refine Ev.neg h5 ?_
  obtain ⟨n, rfl⟩ := Int.eq_ofNat_of_zero_le (show 0 ≤ w by omega)
  refine Ev.bnd (two_ev n (by omega)) ?_
  by_cases h6 : s ≥ ((2 ^ n : Nat) : Int)
  · refine Ev.pos h6 (Ev.ret' ?_); symm; rw [decide_eq_false_iff_not]; intro h; have h9 := h.2.2.2.2.2.1; rw [Int.toNat_natCast] at h9; omega
  refine Ev.neg h6 ?_
  by_cases h7 : k = 0
  · refine Ev.pos h7 (Ev.ret' ?_); rw [Bool.eq_iff_iff]; simp only [beq_iff_eq, decide_eq_true_eq]
    exact ⟨fun e => ⟨by omega, by omega, by omega, by omega, by omega, by rw [Int.toNat_natCast]; omega, fun _ => e⟩, fun h => h.2.2.2.2.2.2 h7⟩
  · refine Ev.neg h7 (Ev.ret' ?_); symm; rw [decide_eq_true_eq]
    exact ⟨by omega, by omega, by omega, by omega, by omega, by rw [Int.toNat_natCast]; omega, fun e => absurd e h7⟩

/-- What the bit i was, in words of N bits. -/
def fromS (k N s i : Int) : Int := if k = 2 then (if i + s < N then i + s else -1) else if s ≤ i then i - s else if k = 3 then i - s + N else -1
theorem from_ev {k w s : Int} (hf : Fit k w s) (n : Nat) (hn : w = n) (i : Int) (h0 : 0 ≤ i) (h1 : i < ((2 ^ n : Nat) : Int)) : Ev (fun q => turn_From.f q k w s i) (fromS k ((2 ^ n : Nat) : Int) s i) := by
  obtain ⟨g1, g2, g3, g4, g5, g6, g7⟩ := hf
  have hfit : Fit k w s := ⟨g1, g2, g3, g4, g5, g6, g7⟩
  subst hn
  have hN := two_pow_le (w := n) (by omega)
  rw [Int.toNat_natCast] at g6
  have hs := shl_i64 n (by omega)
  generalize 2 ^ n = N at *
  unfold turn_From.f
  refine Ev.bnd0 ((fits_eq k (n : Int) s).trans (congrArg some (decide_eq_true hfit))) (Ev.pos rfl (Ev.neg (by omega) (Ev.pos (by omega) ?_)))
  rw [hs]
  rw [show decide (i ≥ (N : Int)) = false from decide_eq_false (by omega)]
  have e1 : wrap64 (i + s) = i + s := w64_id (by omega) (by omega)
  have e2 : wrap64 (i - s) = i - s := w64_id (by omega) (by omega)
  have e3 : wrap64 (i - s + N) = i - s + N := w64_id (by omega) (by omega)
  refine Ev.step (fun q => by rw [turn_From.j0]) (Ev.neg (by decide) ?_)
  by_cases c1 : k = 2
  · refine Ev.pos c1 (Ev.pos (by omega) ?_)
    rw [hs, e1]
    by_cases c2 : i + s < N
    · rw [decide_eq_true c2]
      exact Ev.step (fun q => by rw [turn_From.j1]) (Ev.pos rfl (Ev.ret' (by rw [e1]; unfold fromS; rw [if_pos c1, if_pos c2])))
    · rw [decide_eq_false c2]
      refine Ev.step (fun q => by rw [turn_From.j1]) (Ev.neg (by decide) (Ev.pos c1 ?_))
      exact Ev.step (fun q => by rw [turn_From.j2]) (Ev.neg (by decide) (Ev.neg (by omega) (Ev.ret' (by unfold fromS; rw [if_pos c1, if_neg c2]))))
  · refine Ev.neg c1 (Ev.step (fun q => by rw [turn_From.j1]) (Ev.neg (by decide) (Ev.neg c1 ?_)))
    by_cases c2 : s ≤ i
    · rw [decide_eq_true (show i ≥ s from c2)]
      exact Ev.step (fun q => by rw [turn_From.j2]) (Ev.pos rfl (Ev.ret' (by rw [e2]; unfold fromS; rw [if_neg c1, if_pos c2])))
    · rw [decide_eq_false (show ¬ i ≥ s from c2)]
      refine Ev.step (fun q => by rw [turn_From.j2]) (Ev.neg (by decide) ?_)
      by_cases c3 : k = 3
      · exact Ev.pos c3 (Ev.pos (by omega) (Ev.ret' (by rw [e2, hs, e3]; unfold fromS; rw [if_neg c1, if_neg c2, if_pos c3])))
      · exact Ev.neg c3 (Ev.ret' (by unfold fromS; rw [if_neg c1, if_neg c2, if_neg c3]))
theorem from_out {k w s : Int} (i : Int) (h : ¬ (Fit k w s ∧ 0 ≤ i ∧ i < ((2 ^ w.toNat : Nat) : Int))) : Ev (fun q => turn_From.f q k w s i) (-1) := by
  unfold turn_From.f
  by_cases hf : Fit k w s
  · refine Ev.bnd0 ((fits_eq k w s).trans (congrArg some (decide_eq_true hf))) (Ev.pos rfl ?_)
    by_cases h0 : i < 0
    · exact Ev.pos h0 (Ev.step (fun q => by rw [turn_From.j0]) (Ev.pos rfl (Ev.ret _)))
    · obtain ⟨g1, g2, g3, g4, g5, g6, g7⟩ := hf
      obtain ⟨n, rfl⟩ := Int.eq_ofNat_of_zero_le g3
      refine Ev.neg h0 (Ev.pos g3 ?_)
      rw [shl_i64 n (by omega)]
      rw [decide_eq_true (show i ≥ ((2 ^ n : Nat) : Int) from ?_)]
      · exact Ev.step (fun q => by rw [turn_From.j0]) (Ev.pos rfl (Ev.ret _))
      · rw [Int.toNat_natCast] at h g6
        by_cases h1 : i < ((2 ^ n : Nat) : Int)
        · exact absurd ⟨⟨g1, g2, g3, g4, g5, by rw [Int.toNat_natCast]; exact g6, g7⟩, by omega, h1⟩ h
        · omega
  · refine Ev.bnd0 ((fits_eq k w s).trans (congrArg some (decide_eq_false hf))) (Ev.neg (by decide) ?_)
    exact Ev.step (fun q => by rw [turn_From.j0]) (Ev.pos rfl (Ev.ret _))
theorem fromS_lt {k N s i : Int} (hs0 : 0 ≤ s) (hs : s < N) (h0 : 0 ≤ i) (h1 : i < N) : fromS k N s i < N ∧ -1 ≤ fromS k N s i := by
  unfold fromS
  split
  · split <;> omega
  · split
    · omega
    · split <;> omega

/-- One bit of words turned. -/
def bitS (k : Int) (N : Nat) (s : Int) (b : List Bool) (i : Nat) : Bool := if 0 ≤ fromS k N s ((i % N : Nat) : Int) then b.getD (i - i % N + (fromS k N s ((i % N : Nat) : Int)).toNat) false else false
def bitsS (k : Int) (N : Nat) (s : Int) (b : List Bool) : List Bool := (List.range b.length).map (bitS k N s b)
theorem blk_le {N i L : Nat} (hN : 0 < N) (hm : L % N = 0) (hi : i < L) : i - i % N + N ≤ L := by
  have e1 := Nat.div_add_mod i N
  have hq : i / N < L / N := by
    rw [Nat.div_lt_iff_lt_mul hN]
    have := Nat.div_mul_cancel (Nat.dvd_of_mod_eq_zero hm)
    omega
  have h3 : N * (i / N) + N ≤ N * (L / N) := by
    have := Nat.mul_le_mul_left N hq
    rw [Nat.mul_succ] at this; exact this
  have e2 := Nat.mul_div_cancel' (Nat.dvd_of_mod_eq_zero hm)
  omega
theorem bits_l0 {k s : Int} {n : Nat} (hf : Fit k (n : Int) s) (b : List Bool) (hlen : b.length ≤ 1000000) (hm : b.length % 2 ^ n = 0) : ∀ d i (x : List Bool), i + d = b.length → x.length = b.length → (∀ j, j < i → x[j]? = some (bitS k (2 ^ n) s b j)) → (∀ j, i ≤ j → j < b.length → x[j]? = some false) →
    Ev (fun q => turn_Bits.l0 q k (n : Int) s b x (b.length : Int) (i : Int)) (bitsS k (2 ^ n) s b, 0) := by
  intro d
  have hn : n ≤ 6 := by have := hf.2.2.2.1; omega
  have hN := two_pow_le hn
  have hN1 : 0 < 2 ^ n := Nat.two_pow_pos n
  induction d with
  | zero =>
    intro i x hi hx h1 h2
    refine Ev.step (fun q => by rw [turn_Bits.l0]) (Ev.neg (by omega) (Ev.ret' ?_))
    congr 1
    apply List.ext_getElem?
    intro j
    by_cases hj : j < b.length
    · rw [h1 j (by omega)]; simp [bitsS, hj]
    · rw [List.getElem?_eq_none (by omega), List.getElem?_eq_none (by simp [bitsS]; omega)]
  | succ d ih =>
    intro i x hi hx h1 h2
    have hib : i < b.length := by omega
    have hmod : i % 2 ^ n < 2 ^ n := Nat.mod_lt _ hN1
    have hle : i % 2 ^ n ≤ i := Nat.mod_le _ _
    have hfr := from_ev hf n rfl ((i % 2 ^ n : Nat) : Int) (by omega) (by omega)
    have hs := hf.2.2.2.2
    rw [Int.toNat_natCast] at hs
    have hb := fromS_lt (k := k) hs.1 hs.2.1 (i := ((i % 2 ^ n : Nat) : Int)) (by omega) (by omega)
    have hblk := blk_le hN1 hm hib
    have c0 : (i : Int) < (b.length : Int) := by omega
    have c1 : 0 ≤ (n : Int) := by omega
    have c2 : 0 ≤ (i : Int) := by omega
    have c3 : (i : Int) < (x.length : Int) := by omega
    refine Ev.step (fun q => by rw [turn_Bits.l0]) (Ev.pos c0 (Ev.pos c1 ?_))
    have hand : Go.bits .and .i64 (i : Int) (wrap64 ((shl .i64 1 (n : Int)) - 1)) = ((i % 2 ^ n : Nat) : Int) := by
      rw [shl_i64 n (by omega), w64_id (by omega) (by omega)]
      exact and_i64_mask i n (by omega) (by omega)
    simp only [hand]
    clear hand
    refine Ev.bnd hfr ?_
    clear hfr
    simp only [w64_succ hib (Nat.le_trans hlen (by decide)), w64_sub hle (by omega)]
    by_cases c : fromS k ((2 ^ n : Nat) : Int) s ((i % 2 ^ n : Nat) : Int) ≥ 0
    · refine Ev.pos c ?_
      have hbit : bitS k (2 ^ n) s b i = b.getD (i - i % 2 ^ n + (fromS k ((2 ^ n : Nat) : Int) s ((i % 2 ^ n : Nat) : Int)).toNat) false := by
        unfold bitS
        rw [if_pos c]
      obtain ⟨t, ht⟩ := Int.eq_ofNat_of_zero_le c
      rw [ht] at hb hbit ⊢
      rw [Int.toNat_natCast] at hbit
      have htN : t < 2 ^ n := by omega
      simp only [w64_add (show i - i % 2 ^ n ≤ 2305843009213693952 by omega) (show t ≤ 2305843009213693952 by omega)]
      refine Ev.pos (Int.natCast_nonneg _) (Ev.pos (by omega) (Ev.pos c2 (Ev.pos c3 ?_)))
      rw [rdOf_eq, Int.toNat_natCast]
      refine ih (i + 1) _ (by omega) (by rw [List.length_set, hx]) (fun j hj => ?_) (fun j hj hjb => ?_)
      · by_cases e : j = i
        · subst e
          rw [List.getElem?_set_self (by omega), hbit]
        · rw [List.getElem?_set_ne (by omega)]; exact h1 j (by omega)
      · rw [List.getElem?_set_ne (by omega)]; exact h2 j (by omega) hjb
    · refine Ev.neg c ?_
      refine ih (i + 1) x (by omega) hx (fun j hj => ?_) (fun j hj hjb => h2 j (by omega) hjb)
      by_cases e : j = i
      · subst e
        rw [h2 j (by omega) hib]
        unfold bitS
        rw [if_neg c]
      · exact h1 j (by omega)
theorem bits_ev {k s : Int} {n : Nat} (hf : Fit k (n : Int) s) (b : List Bool) (hlen : b.length ≤ 1000000) (hm : b.length % 2 ^ n = 0) : Ev (fun q => turn_Bits.f q k (n : Int) s b) (bitsS k (2 ^ n) s b, 0) := by
  have hn : n ≤ 6 := by have := hf.2.2.2.1; omega
  have hN1 : 0 < 2 ^ n := Nat.two_pow_pos n
  unfold turn_Bits.f
  refine Ev.bnd0 ((fits_eq k (n : Int) s).trans (congrArg some (decide_eq_true hf))) (Ev.pos rfl (Ev.pos (by omega) ?_))
  rw [shl_i64 n (by omega)]
  refine Ev.neg (by omega) (Ev.pos (by exact_mod_cast hm) (Ev.pos (by omega) (Ev.pos (by omega) ?_)))
  rw [Int.toNat_natCast]
  exact bits_l0 hf b hlen hm b.length 0 _ (by omega) (by simp) (fun j hj => by omega) (fun j _ hj => by simp [hj])
theorem bits_size {k s : Int} {n : Nat} (hf : Fit k (n : Int) s) (b : List Bool) (hm : b.length % 2 ^ n ≠ 0) : Ev (fun q => turn_Bits.f q k (n : Int) s b) ([], 6) := by
  have hn : n ≤ 6 := by have := hf.2.2.2.1; omega
  have hN1 : 0 < 2 ^ n := Nat.two_pow_pos n
  unfold turn_Bits.f
  refine Ev.bnd0 ((fits_eq k (n : Int) s).trans (congrArg some (decide_eq_true hf))) (Ev.pos rfl (Ev.pos (by omega) ?_))
  rw [shl_i64 n (by omega)]
  exact Ev.neg (by omega) (Ev.neg (fun h => hm (by exact_mod_cast h)) (Ev.ret _))
theorem bits_arg {k w s : Int} (hf : ¬ Fit k w s) (b : List Bool) : Ev (fun q => turn_Bits.f q k w s b) ([], 1) := by
  unfold turn_Bits.f
  exact Ev.bnd0 ((fits_eq k w s).trans (congrArg some (decide_eq_false hf))) (Ev.neg (by decide) (Ev.ret _))

/-- The same bits? -/
theorem same_l0 (a b : List Bool) (hl : a.length = b.length) (hlen : a.length ≤ 1000000) : ∀ d i, i + d = a.length → (∀ j, j < i → a.getD j false = b.getD j false) → Ev (fun q => steeplelaw18_same.l0 q a b (i : Int)) (decide (a = b)) := by
  intro d
  induction d with
  | zero =>
    intro i hi h
    refine Ev.step (fun q => by rw [steeplelaw18_same.l0]) (Ev.neg (by omega) (Ev.ret' ?_))
    symm; rw [decide_eq_true_eq]
    apply List.ext_getElem hl
    intro j h1 h2
    have := h j (by omega)
    simpa [List.getD_eq_getElem?_getD, h1, h2] using this
  | succ d ih =>
    intro i hi h
    refine Ev.step (fun q => by rw [steeplelaw18_same.l0]) (Ev.pos (by omega) (Ev.pos (by omega) (Ev.pos (by omega) ?_)))
    simp only [rdOf_eq]
    by_cases c : a.getD i false = b.getD i false
    · refine Ev.neg (by rw [c]; simp) ?_
      have hnext : wrap64 ((i : Int) + 1) = ((i + 1 : Nat) : Int) := by rw [w64_id (by omega) (by omega)]; omega
      simp only [hnext]
      exact ih (i + 1) (by omega) (fun j hj => by
        by_cases e : j = i
        · rw [e]; exact c
        · exact h j (by omega))
    · refine Ev.pos (by simpa using c) (Ev.ret' ?_)
      symm; rw [decide_eq_false_iff_not]
      rintro rfl; exact c rfl
theorem same_ev (a b : List Bool) (hlen : a.length ≤ 1000000) : Ev (fun q => steeplelaw18_same.f q a b) (decide (a = b)) := by
  unfold steeplelaw18_same.f
  by_cases h : a.length = b.length
  · exact Ev.pos (by omega) (same_l0 a b h hlen a.length 0 (by omega) (fun j hj => by omega))
  · refine Ev.neg (by omega) (Ev.ret' ?_)
    symm; rw [decide_eq_false_iff_not]
    rintro rfl; exact h rfl

/-- Is the bit x what the bit y was? -/
def wasS (k N s x y : Int) : Bool := if k = 2 then y == x + s else if k = 3 then (y + s) % N == x else x == y + s
theorem was_ev {k s : Int} {n : Nat} (hf : Fit k (n : Int) s) (x y : Int) (hx : 0 ≤ x) (hx1 : x ≤ 1000000) (hy : 0 ≤ y) (hy1 : y ≤ 1000000) : Ev (fun q => steepleref18_Was.f q k (n : Int) s x y) (wasS k ((2 ^ n : Nat) : Int) s x y) := by
  have hn : n ≤ 6 := by have := hf.2.2.2.1; omega
  have hN := two_pow_le hn
  have hN1 : 0 < 2 ^ n := Nat.two_pow_pos n
  have hs := hf.2.2.2.2
  rw [Int.toNat_natCast] at hs
  unfold steepleref18_Was.f
  refine Ev.bnd (two_ev n (by omega)) ?_
  have e1 : wrap64 (x + s) = x + s := w64_id (by omega) (by omega)
  have e2 : wrap64 (y + s) = y + s := w64_id (by omega) (by omega)
  simp only [e1, e2]
  unfold wasS
  by_cases c1 : k = 2
  · exact Ev.pos c1 (Ev.ret' (by rw [if_pos c1]))
  · refine Ev.neg c1 ?_
    rw [if_neg c1]
    by_cases c2 : k = 3
    · refine Ev.pos c2 (Ev.neg (by omega) (Ev.ret' ?_))
      rw [if_pos c2, Int.tmod_eq_emod_of_nonneg (by omega)]
    · exact Ev.neg c2 (Ev.ret' (by rw [if_neg c2]))
theorem was_iff {k N s x y : Int} (hs0 : 0 ≤ s) (hs : s < N) (hx : 0 ≤ x) (hx1 : x < N) (hy : 0 ≤ y) (hy1 : y < N) : wasS k N s x y = true ↔ fromS k N s x = y := by
  unfold wasS fromS
  by_cases c1 : k = 2
  · rw [if_pos c1, if_pos c1, beq_iff_eq]
    split <;> omega
  · rw [if_neg c1, if_neg c1]
    by_cases c2 : k = 3
    · rw [if_pos c2, if_pos c2, beq_iff_eq]
      have hm : (y + s) % N = if y + s < N then y + s else y + s - N := by
        split
        · exact Int.emod_eq_of_lt (by omega) (by omega)
        · rw [← Int.sub_emod_right, Int.emod_eq_of_lt (by omega) (by omega)]
      rw [hm]
      split <;> split <;> omega
    · rw [if_neg c2, if_neg c2, beq_iff_eq]
      split <;> omega

/-- One word turned, as the document has it. -/
def refBitS (k : Int) (N : Nat) (s : Int) (b : List Bool) (x : Nat) : Bool := (List.range b.length).any (fun (y : Nat) => wasS k N s x y && b.getD y false)
theorem refBits_l1 {k s : Int} {n : Nat} (hf : Fit k (n : Int) s) (b : List Bool) (hlen : b.length ≤ 1000) (out : List Bool) (x : Nat) (hx : x < b.length) (hout : out.length ≤ 1000) {R : List Bool}
    (hk : Ev (fun q => steepleref18_Bits.l0 q k (n : Int) s b (out ++ [refBitS k (2 ^ n) s b x]) ((x + 1 : Nat) : Int)) R) :
    ∀ d y, y + d = b.length → Ev (fun q => steepleref18_Bits.l1 q k (n : Int) s b out (x : Int) ((List.range y).any (fun (y : Nat) => wasS k ((2 ^ n : Nat) : Int) s x y && b.getD y false)) (y : Int)) R := by
  intro d
  induction d with
  | zero =>
    intro y hy
    refine Ev.step (fun q => by rw [steepleref18_Bits.l1]) (Ev.neg (by omega) (Ev.pos (by omega) ?_))
    have hnext : wrap64 ((x : Int) + 1) = ((x + 1 : Nat) : Int) := by rw [w64_id (by omega) (by omega)]; omega
    simp only [hnext]
    have : y = b.length := by omega
    subst this
    exact hk
  | succ d ih =>
    intro y hy
    have hnext : wrap64 ((y : Int) + 1) = ((y + 1 : Nat) : Int) := by rw [w64_id (by omega) (by omega)]; omega
    have hih := ih (y + 1) (by omega)
    rw [List.range_succ, List.any_append, List.any_cons, List.any_nil, Bool.or_false] at hih
    generalize (List.range y).any (fun (y : Nat) => wasS k ((2 ^ n : Nat) : Int) s x y && b.getD y false) = acc at hih ⊢
    refine Ev.step (fun q => by rw [steepleref18_Bits.l1]) (Ev.pos (by omega) ?_)
    simp only [hnext]
    cases acc with
    | true => exact Ev.pos rfl (by simpa using hih)
    | false =>
      refine Ev.neg (by decide) (Ev.bnd (was_ev hf (x : Int) (y : Int) (by omega) (by omega) (by omega) (by omega)) ?_)
      cases hw : wasS k ((2 ^ n : Nat) : Int) s x y with
      | true =>
        refine Ev.pos rfl (Ev.pos (by omega) ?_)
        rw [rdOf_eq]
        rw [hw] at hih; simpa using hih
      | false =>
        refine Ev.neg (by decide) ?_
        rw [hw] at hih; simpa using hih
theorem refBits_l0 {k s : Int} {n : Nat} (hf : Fit k (n : Int) s) (b : List Bool) (hlen : b.length ≤ 1000) : ∀ d x, x + d = b.length → Ev (fun q => steepleref18_Bits.l0 q k (n : Int) s b ((List.range x).map (refBitS k (2 ^ n) s b)) (x : Int)) ((List.range b.length).map (refBitS k (2 ^ n) s b)) := by
  intro d
  induction d with
  | zero =>
    intro x hx
    have : x = b.length := by omega
    subst this
    exact Ev.step (fun q => by rw [steepleref18_Bits.l0]) (Ev.neg (by omega) (Ev.ret _))
  | succ d ih =>
    intro x hx
    have hih := ih (x + 1) (by omega)
    rw [List.range_succ, List.map_append, List.map_cons, List.map_nil] at hih
    refine Ev.step (fun q => by rw [steepleref18_Bits.l0]) (Ev.pos (by omega) ?_)
    exact refBits_l1 hf b hlen _ x (by omega) (by simp; omega) hih b.length 0 (by omega)
theorem refBits_ev {k s : Int} {n : Nat} (hf : Fit k (n : Int) s) (b : List Bool) (hlen : b.length ≤ 1000) : Ev (fun q => steepleref18_Bits.f q k (n : Int) s b) ((List.range b.length).map (refBitS k (2 ^ n) s b)) :=
  refBits_l0 hf b hlen b.length 0 (by omega)
/-- A word's bit is what the document says. -/
theorem refBit_eq {k s : Int} {N : Nat} (hs0 : 0 ≤ s) (hs : s < N) (b : List Bool) (hb : b.length = N) (x : Nat) (hx : x < N) : refBitS k N s b x = (if 0 ≤ fromS k N s (x : Int) then b.getD (fromS k N s (x : Int)).toNat false else false) := by
  unfold refBitS
  have hlt := fromS_lt (k := k) hs0 hs (i := (x : Int)) (by omega) (by omega)
  rw [Bool.eq_iff_iff, List.any_eq_true]
  constructor
  · rintro ⟨y, hy, h⟩
    rw [List.mem_range] at hy
    rw [Bool.and_eq_true, was_iff hs0 hs (by omega) (by omega) (by omega) (by omega)] at h
    rw [h.1, if_pos (by omega), Int.toNat_natCast]; exact h.2
  · intro h
    split at h
    · obtain ⟨t, ht⟩ := Int.eq_ofNat_of_zero_le (by assumption)
      rw [ht, Int.toNat_natCast] at h
      refine ⟨t, by rw [List.mem_range]; omega, ?_⟩
      rw [Bool.and_eq_true, was_iff hs0 hs (by omega) (by omega) (by omega) (by omega)]
      exact ⟨ht, h⟩
    · cases h
end Go.Proofs.Ytngcaphdkgihmaa.Sp

/- TurnBack: a word of bits that is turned round, and round by what is left, is as it was; shifted to the left and back to the right it is so but for the bits that were lost; for all words of up to 64 bits and all turns. Own text. -/
import Derived.Test.YtngcaphdkgihmaaStatedTurnBack
import Derived.Test.YtngcaphdkgihmaaTurn18
namespace Go.Proofs.Ytngcaphdkgihmaa.Sp
open Go.RowKit Go.Proofs.YtngcaphdkgihmaaW.PrintWords Go.Proofs.YtngcaphdkgihmaaW.PrintMore Go.Proofs.Ytngcaphdkgihmaa.P Go.Proofs.Ytngcaphdkgihmaa.Ar
set_option linter.unusedVariables false
set_option linter.unusedSimpArgs false
theorem awake18b_ev : Ev (fun k => steeplelaw18_awake.f k) true := Ev.of steeplelaw18_awake.mono (k := 20) (by decide +kernel)
theorem bitS_lt {k s : Int} {N : Nat} (b : List Bool) (i : Nat) (hi : i < N) : bitS k N s b i = if 0 ≤ fromS k N s (i : Int) then b.getD (fromS k N s (i : Int)).toNat false else false := by
  unfold bitS
  rw [Nat.mod_eq_of_lt hi, Nat.sub_self, Nat.zero_add]
theorem bitsS_length (k s : Int) (N : Nat) (b : List Bool) : (bitsS k N s b).length = b.length := by simp [bitsS]
theorem bitsS_getD (k s : Int) (N : Nat) (b : List Bool) (i : Nat) (hi : i < b.length) : (bitsS k N s b).getD i false = bitS k N s b i := by
  rw [List.getD_eq_getElem?_getD]; simp [bitsS, hi]
/-- Round, and round by what is left. -/
theorem round_back (N s t : Nat) (b : List Bool) (hb : b.length = N) (hs : s < N) (ht : t < N) (hst : (s + t) % N = 0) : bitsS 3 N (t : Int) (bitsS 3 N (s : Int) b) = b := by
  apply List.ext_getElem (by rw [bitsS_length, bitsS_length])
  intro i h1 h2
  have hi : i < N := by omega
  have e1 : (bitsS 3 N (t : Int) (bitsS 3 N (s : Int) b))[i] = bitS 3 N (t : Int) (bitsS 3 N (s : Int) b) i := by simp [bitsS]
  have e2 : b[i] = b.getD i false := by simp [List.getD_eq_getElem?_getD, h2]
  rw [e1, e2, bitS_lt _ i hi]
  have hst' : s + t = 0 ∨ s + t = N := by
    rcases Nat.lt_or_ge (s + t) N with h | h
    · rw [Nat.mod_eq_of_lt h] at hst; omega
    · rw [Nat.mod_eq_sub_mod h, Nat.mod_eq_of_lt (by omega)] at hst; omega
  have hf : ∀ (u i : Nat), u < N → i < N → fromS 3 (N : Int) (u : Int) (i : Int) = (((if u ≤ i then i - u else i + N - u : Nat)) : Int) := by
    intro u i hu hi; unfold fromS; rw [if_neg (by decide), if_pos rfl]
    by_cases h : u ≤ i
    · rw [if_pos (by omega), if_pos h]; omega
    · rw [if_neg (by omega), if_neg h]; omega
  rw [hf t i ht hi, if_pos (by omega), Int.toNat_natCast]
  have hj : (if t ≤ i then i - t else i + N - t) < N := by split <;> omega
  rw [bitsS_getD _ _ _ _ _ (by omega), bitS_lt _ _ hj, hf s _ hs hj, if_pos (by omega), Int.toNat_natCast]
  congr 1
  split <;> split <;> omega
theorem left_right (N s : Nat) (b : List Bool) (hb : b.length = N) (hs : s < N) (i : Nat) (hi : i < N) : (bitsS 2 N (s : Int) (bitsS 1 N (s : Int) b)).getD i false = (b.getD i false && decide (i < N - s)) := by
  rw [bitsS_getD _ _ _ _ _ (by rw [bitsS_length]; omega), bitS_lt _ i hi]
  have h2 : fromS 2 (N : Int) (s : Int) (i : Int) = if i + s < N then ((i + s : Nat) : Int) else -1 := by
    unfold fromS; rw [if_pos rfl]; split <;> split <;> omega
  rw [h2]
  by_cases c : i + s < N
  · rw [if_pos c, if_pos (by omega), Int.toNat_natCast, bitsS_getD _ _ _ _ _ (by omega), bitS_lt _ _ c]
    have h1 : fromS 1 (N : Int) (s : Int) ((i + s : Nat) : Int) = (i : Int) := by
      unfold fromS; rw [if_neg (by decide), if_pos (by omega)]; omega
    rw [h1, if_pos (by omega), Int.toNat_natCast, decide_eq_true (by omega), Bool.and_true]
  · rw [if_neg c, if_neg (by omega), decide_eq_false (by omega), Bool.and_false]
theorem back_l0 (b x : List Bool) (N s : Nat) (hN : N ≤ 64) (hs : s < N) (hb : b.length = N) (hx : x.length = N) (h : ∀ i, i < N → x.getD i false = (b.getD i false && decide (i < N - s))) : ∀ (d i : Nat), i + d = N → Ev (fun q => steeplelaw18_TurnBack.l0 q (s : Int) b (N : Int) x (i : Int)) true := by
  intro d
  induction d with
  | zero =>
    intro i hi
    exact Ev.step (fun q => by rw [steeplelaw18_TurnBack.l0]) (Ev.neg (by omega) (Ev.bnd awake18b_ev (Ev.ret _)))
  | succ d ih =>
    intro i hi
    have hi' : i < N := by omega
    have hv := h i hi'
    refine Ev.step (fun q => by rw [steeplelaw18_TurnBack.l0]) (Ev.pos (by omega) (Ev.pos (by omega) (Ev.pos (by omega) (Ev.pos (by omega) ?_))))
    simp only [rdOf_eq, w64_succ hi' (show N ≤ 4611686018427387904 by omega), w64_sub (show s ≤ N by omega) (show N ≤ 4611686018427387904 by omega)]
    rw [hv]
    cases hbi : b.getD i false with
    | true =>
      refine Ev.pos rfl (Ev.neg ?_ (ih (i + 1) (by omega)))
      have : decide (i < N - s) = decide ((i : Int) < ((N - s : Nat) : Int)) := by rw [decide_eq_decide]; omega
      rw [this]; simp
    | false => exact Ev.neg (by decide) (Ev.neg (by simp) (ih (i + 1) (by omega)))
end Go.Proofs.Ytngcaphdkgihmaa.Sp
namespace Go.Proofs.Ytngcaphdkgihmaa.Pure
open Go.RowKit Go.Proofs.YtngcaphdkgihmaaW.PrintWords Go.Proofs.YtngcaphdkgihmaaW.PrintMore Go.Proofs.Ytngcaphdkgihmaa.P Go.Proofs.Ytngcaphdkgihmaa.Ar Go.Proofs.Ytngcaphdkgihmaa.Sp
theorem tmod_range (a : Int) (N : Nat) (hN : 0 < N) (hN2 : N ≤ 64) : ∃ m : Nat, m < N ∧ Int.tmod (wrap64 (Int.tmod a (N : Int) + (N : Int))) (N : Int) = (m : Int) := by
  have h1 := Int.tmod_lt_of_pos a (show (0 : Int) < N by omega)
  have h2 : -(N : Int) < Int.tmod a N := by
    have := Int.lt_tmod_of_pos a (show (0 : Int) < N by omega)
    omega
  rw [w64_id (by omega) (by omega)]
  have h3 := Int.tmod_lt_of_pos (Int.tmod a (N : Int) + N) (show (0 : Int) < N by omega)
  have h4 := Int.tmod_nonneg (N : Int) (show 0 ≤ Int.tmod a (N : Int) + N by omega)
  exact ⟨(Int.tmod (Int.tmod a (N : Int) + N) N).toNat, by omega, by omega⟩
theorem TurnBack : Stated.turnBack.Pure := by
  intro a0 a1 b h0 h1 h2
  refine Ev.rounds (g := fun k => steeplelaw18_TurnBack.f k a0 a1 b) ?_
  unfold steeplelaw18_TurnBack.f
  obtain ⟨n, hn, hw⟩ := tmod_range a0 7 (by decide) (by decide)
  have hw' : Int.tmod (wrap64 (Int.tmod a0 7 + 7)) 7 = (n : Int) := hw
  have hrd : rd ([1, 2, 4, 8, 16, 32, 64] : List Int) (n : Int) = ((2 ^ n : Nat) : Int) := by
    have : ∀ m, m ≤ 6 → rd ([1, 2, 4, 8, 16, 32, 64] : List Int) ((m : Nat) : Int) = ((2 ^ m : Nat) : Int) := by decide
    exact this n (by omega)
  have hN := two_pow_le (w := n) (by omega)
  have hN1 : 0 < 2 ^ n := Nat.two_pow_pos n
  refine Ev.bnd0 (a := ([1, 2, 4, 8, 16, 32, 64] : List Int)) rfl ?_
  simp only [hw', hrd]
  obtain ⟨s, hs, hs'⟩ := tmod_range a1 (2 ^ n) hN1 hN
  simp only [hs']
  refine Ev.pos (by omega) (Ev.pos (by simp; omega) (Ev.neg (by omega) ?_))
  by_cases hl : (b.length : Int) = ((2 ^ n : Nat) : Int)
  · have hl' : b.length = 2 ^ n := by omega
    have hm : b.length % 2 ^ n = 0 := by rw [hl', Nat.mod_self]
    have ht : Int.tmod (wrap64 (((2 ^ n : Nat) : Int) - (s : Int))) ((2 ^ n : Nat) : Int) = (((2 ^ n - s) % 2 ^ n : Nat) : Int) := by
      rw [w64_sub (show s ≤ 2 ^ n by omega) (by omega), Int.tmod_eq_emod_of_nonneg (by omega)]; rfl
    have htN : (2 ^ n - s) % 2 ^ n < 2 ^ n := Nat.mod_lt _ hN1
    have hst : (s + (2 ^ n - s) % 2 ^ n) % 2 ^ n = 0 := by
      rw [Nat.add_mod_mod, show s + (2 ^ n - s) = 2 ^ n by omega, Nat.mod_self]
    have hfit : ∀ (k : Int) (u : Nat), 1 ≤ k → k ≤ 3 → u < 2 ^ n → Fit k (n : Int) (u : Int) := fun k u h1 h2 h3 => ⟨by omega, h2, by omega, by omega, by omega, by rw [Int.toNat_natCast]; omega, fun h => by omega⟩
    simp only [ht]
    clear ht hs' hw' hw hrd
    refine Ev.pos hl (Ev.bnd (bits_ev (hfit 3 s (by decide) (by decide) hs) b (by omega) hm) ?_)
    refine Ev.bnd (bits_ev (hfit 3 _ (by decide) (by decide) htN) _ (by rw [bitsS_length]; omega) (by rw [bitsS_length]; exact hm)) ?_
    refine Ev.bnd (bits_ev (hfit 1 s (by decide) (by decide) hs) b (by omega) hm) ?_
    refine Ev.bnd (bits_ev (hfit 2 s (by decide) (by decide) hs) _ (by rw [bitsS_length]; omega) (by rw [bitsS_length]; exact hm)) ?_
    refine Ev.pos rfl (Ev.pos rfl (Ev.pos rfl (Ev.pos rfl ?_)))
    rw [round_back (2 ^ n) s _ b hl' hs htN hst]
    refine Ev.bnd (same_ev b b (by omega)) (Ev.pos (by simp) ?_)
    rw [show (((bitsS 2 (2 ^ n) (s : Int) (bitsS 1 (2 ^ n) (s : Int) b)).length : Int) != ((2 ^ n : Nat) : Int)) = false by simp [bitsS_length, hl']]
    refine Ev.step (fun q => by rw [steeplelaw18_TurnBack.j0]) (Ev.neg (by decide) ?_)
    exact back_l0 b _ (2 ^ n) s hN hs hl' (by rw [bitsS_length, bitsS_length]; exact hl') (fun i hi => left_right (2 ^ n) s b hl' hs i hi) (2 ^ n) 0 (by omega)
  · exact Ev.neg hl (Ev.bnd awake18b_ev (Ev.ret _))
end Go.Proofs.Ytngcaphdkgihmaa.Pure

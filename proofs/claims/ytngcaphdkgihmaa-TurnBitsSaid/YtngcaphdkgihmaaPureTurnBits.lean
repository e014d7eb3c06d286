/- TurnBits: words of bits are turned bit by bit as the document says, what each bit was is told, or the error; for all turns, all bits (up to 200), all places. Own text. -/
import Derived.Test.YtngcaphdkgihmaaStatedTurnBits
import Derived.Test.YtngcaphdkgihmaaTurn18
namespace Go.Proofs.Ytngcaphdkgihmaa.Sp
open Go.RowKit Go.Proofs.YtngcaphdkgihmaaW.PrintWords Go.Proofs.YtngcaphdkgihmaaW.PrintMore Go.Proofs.Ytngcaphdkgihmaa.P Go.Proofs.Ytngcaphdkgihmaa.Ar
set_option linter.unusedVariables false
set_option linter.unusedSimpArgs false
theorem awake18_ev : Ev (fun k => steeplelaw18_awake.f k) true := Ev.of steeplelaw18_awake.mono (k := 20) (by decide +kernel)
theorem law18_l1 {kk s : Int} {n : Nat} (hf : Fit kk (n : Int) s) (b : List Bool) (hlen : b.length ≤ 200) (hm : b.length % 2 ^ n = 0) : ∀ d j, j * 2 ^ n + d = b.length → d % 2 ^ n = 0 →
    Ev (fun q => steeplelaw18_TurnBits.l1 q b (bitsS kk (2 ^ n) s b) ((2 ^ n : Nat) : Int) ((j * 2 ^ n : Nat) : Int) kk (n : Int) s) true := by
  have hn : n ≤ 6 := by have := hf.2.2.2.1; omega
  have hN := two_pow_le hn
  have hN1 : 0 < 2 ^ n := Nat.two_pow_pos n
  have hs := hf.2.2.2.2
  rw [Int.toNat_natCast] at hs
  intro d
  induction d using Nat.strongRecOn with
  | _ d ih =>
  intro j hj hd
  by_cases c : d = 0
  · subst c
    exact Ev.step (fun q => by rw [steeplelaw18_TurnBits.l1]) (Ev.neg (by omega) (Ev.bnd awake18_ev (Ev.ret _)))
  · have hdN : 2 ^ n ≤ d := Nat.le_of_dvd (by omega) (Nat.dvd_of_mod_eq_zero hd)
    have hclen : (bitsS kk (2 ^ n) s b).length = b.length := by simp [bitsS]
    have c1 : ((j * 2 ^ n : Nat) : Int) < (b.length : Int) := by omega
    have c2 : 0 ≤ ((j * 2 ^ n : Nat) : Int) := Int.natCast_nonneg _
    have c3 : ((j * 2 ^ n : Nat) : Int) ≤ ((j * 2 ^ n + 2 ^ n : Nat) : Int) := by omega
    have c4 : ((j * 2 ^ n + 2 ^ n : Nat) : Int) ≤ ((bitsS kk (2 ^ n) s b).length : Int) := by omega
    have c5 : ((j * 2 ^ n + 2 ^ n : Nat) : Int) ≤ (b.length : Int) := by omega
    have hjN : j * 2 ^ n ≤ 200 := by omega
    refine Ev.step (fun q => by rw [steeplelaw18_TurnBits.l1]) (Ev.pos c1 (Ev.pos c2 ?_))
    simp only [w64_add (show j * 2 ^ n ≤ 2305843009213693952 by omega) (show 2 ^ n ≤ 2305843009213693952 by omega)]
    refine Ev.pos c3 (Ev.pos c4 (Ev.pos c5 ?_))
    simp only [Int.toNat_natCast]
    have hwl : ((b.take (j * 2 ^ n + 2 ^ n)).drop (j * 2 ^ n)).length = 2 ^ n := by
      rw [List.length_drop, List.length_take]; omega
    refine Ev.bnd (refBits_ev hf _ (by rw [hwl]; omega)) (Ev.bnd (same_ev _ _ (by rw [List.length_drop, List.length_take]; omega)) (Ev.pos ?_ ?_))
    · rw [decide_eq_true_eq]
      apply List.ext_getElem?
      intro x
      by_cases hx : x < 2 ^ n
      · rw [List.getElem?_drop, List.getElem?_take_of_lt (by omega), hwl]
        have e1 : (bitsS kk (2 ^ n) s b)[j * 2 ^ n + x]? = some (bitS kk (2 ^ n) s b (j * 2 ^ n + x)) := by
          simp [bitsS, show j * 2 ^ n + x < b.length by omega]
        rw [e1, List.getElem?_map, List.getElem?_range hx, Option.map_some, refBit_eq hs.1 hs.2.1 _ hwl x hx]
        unfold bitS
        have e2 : (j * 2 ^ n + x) % 2 ^ n = x := by rw [Nat.mul_comm, Nat.mul_add_mod, Nat.mod_eq_of_lt hx]
        rw [e2]
        by_cases h0 : 0 ≤ fromS kk ((2 ^ n : Nat) : Int) s (x : Int)
        · rw [if_pos h0, if_pos h0]
          have hlt := fromS_lt (k := kk) hs.1 hs.2.1 (i := (x : Int)) (by omega) (by omega)
          obtain ⟨t, ht⟩ := Int.eq_ofNat_of_zero_le h0
          rw [ht] at hlt ⊢
          rw [Int.toNat_natCast, show j * 2 ^ n + x - x + t = j * 2 ^ n + t by omega]
          congr 1
          rw [List.getD_eq_getElem?_getD, List.getD_eq_getElem?_getD, List.getElem?_drop, List.getElem?_take_of_lt (by omega)]
        · rw [if_neg h0, if_neg h0]
      · rw [List.getElem?_eq_none (by rw [List.length_drop, List.length_take]; omega), List.getElem?_eq_none (by rw [List.length_map, List.length_range, hwl]; omega)]
    · have h2 := ih (d - 2 ^ n) (by omega) (j + 1) (by rw [Nat.add_mul]; omega) (by
        have := Nat.mod_eq_sub_mod hdN; rw [hd] at this; exact this.symm)
      rw [Nat.add_mul, Nat.one_mul] at h2
      exact h2
theorem law18_l0 {kk s : Int} {n : Nat} (hf : Fit kk (n : Int) s) (b : List Bool) (hlen : b.length ≤ 200) (x2 fr : Int) (hfr : fr = if 0 ≤ x2 ∧ x2 < ((2 ^ n : Nat) : Int) then fromS kk ((2 ^ n : Nat) : Int) s x2 else -1)
    (c : List Bool) (e : Int) (hc : (b.length % 2 ^ n = 0 ∧ c = bitsS kk (2 ^ n) s b ∧ e = 0) ∨ (b.length % 2 ^ n ≠ 0 ∧ c = [] ∧ e = 6)) : ∀ (d y : Nat), y + d = 2 ^ n →
    Ev (fun q => steeplelaw18_TurnBits.l0 q b x2 c e fr ((2 ^ n : Nat) : Int) (if 0 ≤ fr ∧ fr < (y : Int) then fr else -1) (y : Int) kk (n : Int) s) true := by
  have hn : n ≤ 6 := by have := hf.2.2.2.1; omega
  have hN := two_pow_le hn
  have hN1 : 0 < 2 ^ n := Nat.two_pow_pos n
  have hs := hf.2.2.2.2
  rw [Int.toNat_natCast] at hs
  have hfrb : fr < ((2 ^ n : Nat) : Int) ∧ -1 ≤ fr := by
    rw [hfr]; split
    · rename_i h; exact fromS_lt hs.1 hs.2.1 h.1 h.2
    · omega
  intro d
  induction d with
  | zero =>
    intro y hy
    have hw : (if 0 ≤ fr ∧ fr < (y : Int) then fr else -1) = fr := by split <;> omega
    rw [hw]
    refine Ev.step (fun q => by rw [steeplelaw18_TurnBits.l0]) (Ev.neg (by omega) (Ev.pos rfl (Ev.neg (by omega) ?_)))
    rcases hc with ⟨hm, rfl, rfl⟩ | ⟨hm, rfl, rfl⟩
    · refine Ev.pos (by exact_mod_cast hm) (Ev.pos rfl ?_)
      rw [show (((bitsS kk (2 ^ n) s b).length : Int) != (b.length : Int)) = false by simp [bitsS]]
      refine Ev.step (fun q => by rw [steeplelaw18_TurnBits.j1]) (Ev.neg (by decide) ?_)
      have := law18_l1 hf b hlen hm b.length 0 (by omega) hm
      rw [Nat.zero_mul] at this
      exact this
    · exact Ev.neg (fun h => hm (by exact_mod_cast h)) (Ev.bnd awake18_ev (Ev.pos rfl (Ev.pos rfl (Ev.ret' (by simp)))))
  | succ d ih =>
    intro y hy
    have hih := ih (y + 1) (by omega)
    have hy1 : y < 2 ^ n := by omega
    have c1 : (y : Int) < ((2 ^ n : Nat) : Int) := by omega
    refine Ev.step (fun q => by rw [steeplelaw18_TurnBits.l0]) (Ev.pos c1 ?_)
    have hskip : fr ≠ (y : Int) → Ev (fun q => steeplelaw18_TurnBits.l0 q b x2 c e fr ((2 ^ n : Nat) : Int) (if 0 ≤ fr ∧ fr < (y : Int) then fr else -1) ((y + 1 : Nat) : Int) kk (n : Int) s) true := by
      intro hne
      have : (if 0 ≤ fr ∧ fr < (y : Int) then fr else -1) = (if 0 ≤ fr ∧ fr < ((y + 1 : Nat) : Int) then fr else -1) := by split <;> split <;> omega
      rw [this]; exact hih
    simp only [w64_succ hy1 (show 2 ^ n ≤ 4611686018427387904 by omega)]
    by_cases g1 : x2 ≥ 0
    · refine Ev.pos g1 ?_
      by_cases g2 : x2 < ((2 ^ n : Nat) : Int)
      · refine Ev.pos g2 (Ev.bnd (was_ev hf x2 (y : Int) g1 (by omega) (by omega) (by omega)) ?_)
        rw [if_pos ⟨g1, g2⟩] at hfr
        have hw := was_iff (k := kk) hs.1 hs.2.1 g1 g2 (show 0 ≤ (y : Int) by omega) c1
        rw [← hfr] at hw
        by_cases g3 : fr = (y : Int)
        · refine Ev.pos (hw.2 g3) ?_
          rw [if_pos (by omega)] at hih
          rw [← g3]
          exact hih
        · exact Ev.neg (fun h => g3 (hw.1 h)) (hskip g3)
      · refine Ev.neg g2 (hskip ?_)
        rw [if_neg (fun h => g2 h.2)] at hfr; omega
    · refine Ev.neg g1 (hskip ?_)
      rw [if_neg (fun h => g1 h.1)] at hfr; omega
end Go.Proofs.Ytngcaphdkgihmaa.Sp
namespace Go.Proofs.Ytngcaphdkgihmaa.Pure
open Go.RowKit Go.Proofs.YtngcaphdkgihmaaW.PrintWords Go.Proofs.YtngcaphdkgihmaaW.PrintMore Go.Proofs.Ytngcaphdkgihmaa.P Go.Proofs.Ytngcaphdkgihmaa.Ar Go.Proofs.Ytngcaphdkgihmaa.Sp
theorem TurnBits : Stated.turnBits.Pure := by
  intro x0 b i h0 h1 h2
  obtain ⟨kk, w, s⟩ := x0
  refine Ev.rounds (g := fun k => steeplelaw18_TurnBits.f k kk w s b i) ?_
  unfold steeplelaw18_TurnBits.f
  by_cases c : (b.length : Int) > 200
  · exact Ev.pos c (Ev.bnd awake18_ev (Ev.ret _))
  refine Ev.neg c ?_
  by_cases hf : Fit kk w s
  · obtain ⟨n, rfl⟩ := Int.eq_ofNat_of_zero_le hf.2.2.1
    have hn : n ≤ 6 := by have := hf.2.2.2.1; omega
    have hfrom : Ev (fun q => turn_From.f q kk (n : Int) s i) (if 0 ≤ i ∧ i < ((2 ^ n : Nat) : Int) then fromS kk ((2 ^ n : Nat) : Int) s i else -1) := by
      by_cases g : 0 ≤ i ∧ i < ((2 ^ n : Nat) : Int)
      · rw [if_pos g]; exact from_ev hf n rfl i g.1 g.2
      · rw [if_neg g]; exact from_out i (fun h => g ⟨h.2.1, by have := h.2.2; rwa [Int.toNat_natCast] at this⟩)
    obtain ⟨fr, hfr⟩ : ∃ fr, fr = (if 0 ≤ i ∧ i < ((2 ^ n : Nat) : Int) then fromS kk ((2 ^ n : Nat) : Int) s i else -1) := ⟨_, rfl⟩
    rw [← hfr] at hfrom
    have hrd : rd ([1, 2, 4, 8, 16, 32, 64] : List Int) (n : Int) = ((2 ^ n : Nat) : Int) := by
      have : ∀ m, m ≤ 6 → rd ([1, 2, 4, 8, 16, 32, 64] : List Int) ((m : Nat) : Int) = ((2 ^ m : Nat) : Int) := by decide
      exact this n hn
    have hrest : ∀ cc e, ((b.length % 2 ^ n = 0 ∧ cc = bitsS kk (2 ^ n) s b ∧ e = 0) ∨ (b.length % 2 ^ n ≠ 0 ∧ cc = [] ∧ e = 6)) → Ev (fun q => turn_Bits.f q kk (n : Int) s b) (cc, e) → Ev (fun k => steeplelaw18_TurnBits.f k kk (n : Int) s b i) true := by
      intro cc e hce hb
      unfold steeplelaw18_TurnBits.f
      refine Ev.neg c (Ev.bnd hb (Ev.bnd hfrom (Ev.bnd (refFits_ev kk (n : Int) s) (Ev.bnd0 (fits_eq kk (n : Int) s) ?_))))
      rw [decide_eq_true hf]
      refine Ev.neg (by decide) (Ev.pos rfl (Ev.bnd0 rfl (Ev.pos (by omega) (Ev.pos (by simp; omega) ?_))))
      rw [hrd]
      have := law18_l0 hf b (by omega) i fr hfr cc e hce (2 ^ n) 0 (by omega)
      have e0 : (if 0 ≤ fr ∧ fr < ((0 : Nat) : Int) then fr else -1) = -1 := if_neg (by omega)
      rw [e0] at this
      exact this
    have := (by
      by_cases hm : b.length % 2 ^ n = 0
      · exact hrest _ _ (Or.inl ⟨hm, rfl, rfl⟩) (bits_ev hf b (by omega) hm)
      · exact hrest _ _ (Or.inr ⟨hm, rfl, rfl⟩) (bits_size hf b hm) : Ev (fun k => steeplelaw18_TurnBits.f k kk (n : Int) s b i) true)
    unfold steeplelaw18_TurnBits.f at this
    simp only [if_neg c] at this
    exact this
  · refine Ev.bnd (bits_arg hf b) (Ev.bnd (from_out i (fun h => hf h.1)) (Ev.bnd (refFits_ev kk w s) (Ev.bnd0 (fits_eq kk w s) ?_)))
    rw [decide_eq_false hf]
    exact Ev.neg (by decide) (Ev.neg (by decide) (Ev.bnd awake18_ev (Ev.pos rfl (Ev.pos rfl (Ev.pos rfl (Ev.ret' (by decide)))))))
end Go.Proofs.Ytngcaphdkgihmaa.Pure

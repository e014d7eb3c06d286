/- The law SpanKeeps. Own text. -/
import Derived.Test.YtmoekjdlpfjhiaaRows
import Derived.WalkKit
import Derived.ProofKit
import Derived.OpenShut
import Derived.ShutString
import Derived.ChangeOld
import Derived.Below
import Derived.SizedLaws
import Derived.Carry
import Derived.Test.YtmoekjdlpfjhiaaMBa
import Derived.Test.YtmoekjdlpfjhiaaMBb
import Derived.Test.YtmoekjdlpfjhiaaMBc
import Derived.Test.YtmoekjdlpfjhiaaMFa
set_option linter.unusedSimpArgs false
set_option linter.unusedVariables false
namespace Go.Proofs.Ytmoekjdlpfjhiaa.Stated.spanKeeps
open Go.Proofs.Ytmoekjdlpfjhiaa.V.B Go.RowKit Go.Proofs.Ytmoekjdlpfjhiaa.B
def Pure : Prop := ∀ (x0 : List S34) (x1 : Int), ((∀ y0 ∈ x0, ((Lit.int .u64 y0.f0).wf = true) ∧ ((Lit.int .u64 y0.f1).wf = true)) ∧ x0.length ≤ maxLen) → ((Lit.int .i64 x1).wf = true) → ∃ k, steeplelaw04_SpanKeeps.f k x0 x1 = some true
end Go.Proofs.Ytmoekjdlpfjhiaa.Stated.spanKeeps
namespace Go.Proofs.Ytmoekjdlpfjhiaa.Sp
open Go.Proofs.Ytmoekjdlpfjhiaa.V.B Go.RowKit Go.Proofs.Ytmoekjdlpfjhiaa.B Go.Proofs.Ytmoekjdlpfjhiaa.V.B.Ar Go.Proofs.Ytmoekjdlpfjhiaa.V.B.Tw
set_option linter.unusedVariables false
set_option linter.unusedSimpArgs false
theorem Q_le_64 {n : Nat} (h : n ≤ 6) : Q n ≤ 2 ^ 64 := Q_mono h
theorem Q_dvd {n : Nat} : Q n = 2 ^ 2 ^ n := rfl
theorem two_pow_le_32 {n : Nat} (h : n ≤ 5) : 2 ^ n ≤ 32 := Nat.pow_le_pow_right (n := 2) (by decide) h
theorem w64_pred {l : Nat} (h : l + 1 ≤ 1000) : wrap64 (((l + 1 : Nat) : Int) - 1) = (l : Int) := by rw [w64_id (by omega) (by omega)]; omega
theorem Q_lt_64 {n : Nat} (h : n ≤ 5) : Q n < 2 ^ 64 := Nat.pow_lt_pow_right (by decide) (by have := two_pow_le_32 h; omega)
theorem karatsuba {n : Nat} (a1 a0 b1 b0 z : T n) : (a1 + a0) * (b1 + b0) + a1 * b1 + a0 * b0 + z = (a1 * b0 + a0 * b1) + z := by
  have : (a1 + a0) * (b1 + b0) + a1 * b1 + a0 * b0 = a1 * b0 + a0 * b1 := by
    simp only [mul_add, add_mul]
    have : ∀ p q r s : T n, p + q + (r + s) + p + s = q + r := fun p q r s => by
      rw [add_comm p q, add_assoc, add_assoc, add_assoc]
      rw [show p + (r + s + (p + s)) = (p + p) + (r + (s + s)) by simp only [add_assoc, add_left_comm, add_comm]]
      rw [add_self, add_self, zero_add, add_zero]
    rw [show a1 * b1 + a0 * b1 + (a1 * b0 + a0 * b0) = a1 * b1 + a0 * b1 + (a1 * b0 + a0 * b0) from rfl, this, add_comm]
  rw [this]
end Go.Proofs.Ytmoekjdlpfjhiaa.Sp
namespace Go.Proofs.Ytmoekjdlpfjhiaa.Sp
open Go.Proofs.Ytmoekjdlpfjhiaa.V.B Go.RowKit Go.Proofs.Ytmoekjdlpfjhiaa.B Go.Proofs.Ytmoekjdlpfjhiaa.V.B.Ar Go.Proofs.Ytmoekjdlpfjhiaa.V.B.Tw
set_option linter.unusedVariables false
set_option linter.unusedSimpArgs false
abbrev E := T 7
/-- The higher and the lower word. -/
def hi (x : E) : Int := ((val x.1 : Nat) : Int)
def lo (x : E) : Int := ((val x.2 : Nat) : Int)
def el (h l : Int) : E := mk (of 6 h.toNat) (of 6 l.toNat)
theorem hi_el {h l : Int} (h0 : 0 ≤ h) (h1 : h < 18446744073709551616) : hi (el h l) = h := by
  unfold hi el; rw [mk_fst, val_of 6 _ (by rw [Q_six]; omega)]; omega
theorem lo_el {h l : Int} (h0 : 0 ≤ l) (h1 : l < 18446744073709551616) : lo (el h l) = l := by
  unfold lo el; rw [mk_snd, val_of 6 _ (by rw [Q_six]; omega)]; omega
theorem hl_inj {x y : E} (h : hi x = hi y) (l : lo x = lo y) : x = y := by
  unfold hi lo at *; exact ext (val_inj (by omega)) (val_inj (by omega))
theorem hi_zero : hi 0 = 0 := by unfold hi; rw [zero_fst, val_zero]; rfl
theorem lo_zero : lo 0 = 0 := by unfold lo; rw [zero_snd, val_zero]; rfl
theorem hi_one : hi 1 = 0 := by unfold hi; rw [one_fst, val_zero]; rfl
theorem lo_one : lo 1 = 1 := by unfold lo; rw [one_snd, val_one]; rfl
theorem hi_bd (x : E) : 0 ≤ hi x ∧ hi x < 18446744073709551616 := by
  unfold hi; have := val_lt x.1; rw [Q_six] at this; omega
theorem lo_bd (x : E) : 0 ≤ lo x ∧ lo x < 18446744073709551616 := by
  unfold lo; have := val_lt x.2; rw [Q_six] at this; omega
theorem val_hl (x : E) : val x = (hi x).toNat * 18446744073709551616 + (lo x).toNat := by
  unfold hi lo; rw [val_succ, Q_six]; simp
theorem eq_zero_iff (x : E) : x = 0 ↔ hi x = 0 ∧ lo x = 0 := ⟨fun h => by rw [h]; exact ⟨hi_zero, lo_zero⟩, fun h => hl_inj (h.1.trans hi_zero.symm) (h.2.trans lo_zero.symm)⟩
theorem xor_hi (x y : E) : Go.bits .xor .u64 (hi x) (hi y) = hi (x + y) := by
  unfold hi; rw [xor_u64 _ _ (val_lt x.1) (val_lt y.1), add_fst, val_add]
theorem xor_lo (x y : E) : Go.bits .xor .u64 (lo x) (lo y) = lo (x + y) := by
  unfold lo; rw [xor_u64 _ _ (val_lt x.2) (val_lt y.2), add_snd, val_add]
/-- Of a level. -/
def InL (l : Nat) (x : E) : Prop := val x < Q l
instance (l : Nat) (x : E) : Decidable (InL l x) := by unfold InL; infer_instance
def OfS (L : Int) (x : E) : Prop := 0 ≤ L ∧ L ≤ 7 ∧ InL L.toNat x
instance (L : Int) (x : E) : Decidable (OfS L x) := by unfold OfS; infer_instance
theorem inL_seven (x : E) : InL 7 x := val_lt x
theorem inL_zero (l : Nat) : InL l 0 := by unfold InL; rw [val_zero]; exact Q_pos l
theorem inL_one (l : Nat) : InL l 1 := by unfold InL; rw [val_one]; exact Nat.lt_of_lt_of_le (by decide : 1 < Q 0) (Q_mono (Nat.zero_le _))
theorem inL_mono {l m : Nat} (h : l ≤ m) {x : E} (hx : InL l x) : InL m x := Nat.lt_of_lt_of_le hx (Q_mono h)
theorem inL_add {l : Nat} {x y : E} (hx : InL l x) (hy : InL l y) : InL l (x + y) := by
  unfold InL at *; rw [val_add]; exact xor_lt hx hy
theorem inL_mul {l : Nat} (hl : l ≤ 7) {x y : E} (hx : InL l x) (hy : InL l y) : InL l (x * y) := by
  unfold InL at *; have := val_mul_lt hl hx hy; rwa [of_val, of_val] at this
theorem inL_six {x : E} : InL 6 x ↔ hi x = 0 := by
  unfold InL; have h := val_hl x; have h1 := hi_bd x; have h2 := lo_bd x
  rw [Q_six, h]; constructor <;> intro g <;> omega
theorem inL_low {l : Nat} (hl : l ≤ 6) {x : E} : InL l x ↔ hi x = 0 ∧ (lo x).toNat < Q l := by
  constructor
  · intro h
    have h6 := inL_six.1 (inL_mono hl h)
    refine ⟨h6, ?_⟩
    unfold InL at h; rw [val_hl, h6] at h; simpa using h
  · rintro ⟨h1, h2⟩
    unfold InL; rw [val_hl, h1]; simpa using h2
/-- The program's element, the document's. -/
@[reducible] def toS (x : E) : S34 := ⟨hi x, lo x⟩
@[reducible] def toR (x : E) : S71 := ⟨hi x, lo x⟩
def WfS (e : S34) : Prop := (0 ≤ e.f0 ∧ e.f0 < 18446744073709551616) ∧ (0 ≤ e.f1 ∧ e.f1 < 18446744073709551616)
theorem Add_ev (x y : E) : Ev (fun k => tower_Add.f k (toS x) (toS y)) (toS (x + y)) := ⟨0, fun k _ => by
  show some (⟨bits .xor .u64 (hi x) (hi y), bits .xor .u64 (lo x) (lo y)⟩ : S34) = _
  rw [xor_hi, xor_lo]⟩
theorem refAdd_ev (x y : E) : Ev (fun k => steepleref02_Add.f k (toR x) (toR y)) (toR (x + y)) := ⟨0, fun k _ => by
  show some (⟨bits .xor .u64 (hi x) (hi y), bits .xor .u64 (lo x) (lo y)⟩ : S71) = _
  rw [xor_hi, xor_lo]⟩
theorem toS_zero : toS 0 = z34 := by unfold toS; rw [hi_zero, lo_zero]; rfl
theorem toS_f0 (x : E) : (toS x).f0 = hi x := rfl
theorem toS_f1 (x : E) : (toS x).f1 = lo x := rfl
theorem toR_f0 (x : E) : (toR x).f0 = hi x := rfl
theorem toR_f1 (x : E) : (toR x).f1 = lo x := rfl
theorem toR_zero : toR 0 = z71 := by unfold toR; rw [hi_zero, lo_zero]; rfl
theorem toS_el (e : S34) (h : WfS e) : toS (el e.f0 e.f1) = e := by unfold toS; rw [hi_el h.1.1 h.1.2, lo_el h.2.1 h.2.2]
theorem toS_inj {x y : E} (h : toS x = toS y) : x = y := by
  unfold toS at h; injection h with h1 h2; exact hl_inj h1 h2
theorem wf_of {e : S34} (h : (Lit.int .u64 e.f0).wf = true ∧ (Lit.int .u64 e.f1).wf = true) : WfS e := ⟨wf_u64 h.1, wf_u64 h.2⟩
/-- A list that came in is a list of elements. -/
theorem list_of (l : List S34) (h : ∀ e ∈ l, ((Lit.int .u64 e.f0).wf = true) ∧ ((Lit.int .u64 e.f1).wf = true)) : ∃ X : List E, l = X.map toS := by
  refine ⟨l.map fun e => el e.f0 e.f1, ?_⟩
  rw [List.map_map]
  conv => lhs; rw [← List.map_id l]
  apply List.map_congr_left
  intro e he
  exact (toS_el e (wf_of (h e he))).symm
theorem elem_of (e : S34) (h : ((Lit.int .u64 e.f0).wf = true) ∧ ((Lit.int .u64 e.f1).wf = true)) : ∃ x : E, e = toS x := ⟨_, (toS_el e (wf_of h)).symm⟩
theorem rdS (X : List E) (i : Nat) : rd34 (X.map toS) (i : Int) = toS (X.getD i 0) := by
  unfold rd34; rw [Int.toNat_natCast, ← toS_zero, List.getD_eq_getElem?_getD, List.getD_eq_getElem?_getD, List.getElem?_map]
  cases X[i]? <;> rfl
theorem rdR (X : List E) (i : Nat) : rd71 (X.map toR) (i : Int) = toR (X.getD i 0) := by
  unfold rd71; rw [Int.toNat_natCast, ← toR_zero, List.getD_eq_getElem?_getD, List.getD_eq_getElem?_getD, List.getElem?_map]
  cases X[i]? <;> rfl
end Go.Proofs.Ytmoekjdlpfjhiaa.Sp
namespace Go.Proofs.Ytmoekjdlpfjhiaa.Sp
open Go.Proofs.Ytmoekjdlpfjhiaa.V.B Go.RowKit Go.Proofs.Ytmoekjdlpfjhiaa.B Go.Proofs.Ytmoekjdlpfjhiaa.V.B.Ar Go.Proofs.Ytmoekjdlpfjhiaa.V.B.Tw
set_option linter.unusedVariables false
set_option linter.unusedSimpArgs false
/-- Is there such a level? -/
def LvS (L : Int) : Prop := 0 ≤ L ∧ L ≤ 7
instance (L : Int) : Decidable (LvS L) := by unfold LvS; infer_instance
theorem rdL (l : Nat) (h : l ≤ 7) : rdI ([1, 2, 4, 8, 16, 32, 64, 128] : List Int) (l : Int) = ((2 ^ l : Nat) : Int) := by
  have : ∀ m, m ≤ 7 → rdI ([1, 2, 4, 8, 16, 32, 64, 128] : List Int) ((m : Nat) : Int) = ((2 ^ m : Nat) : Int) := by decide
  exact this l h
theorem and_one_u64 (a n : Nat) (ha : a < 2 ^ 64) (hn : n ≤ 64) : Go.bits .and .u64 (shr .u64 (a : Int) (n : Int)) 1 = if a.testBit n then 1 else 0 := by
  rw [shr_u64 a n hn]
  have hd : a / 2 ^ n < 2 ^ 64 := Nat.lt_of_le_of_lt (Nat.div_le_self _ _) ha
  rw [show (1 : Int) = ((1 : Nat) : Int) from rfl, and_u64 _ 1 hd (by decide), Nat.and_one_is_mod, Nat.testBit_eq_decide_div_mod_eq]
  by_cases c : a / 2 ^ n % 2 = 1
  · rw [c]; simp
  · rw [show a / 2 ^ n % 2 = 0 by omega]; simp
/-- All of a level. -/
def AllS (L : Int) (X : List E) : Prop := ∀ x ∈ X, OfS L x
instance (L : Int) (X : List E) : Decidable (AllS L X) := by unfold AllS; infer_instance
theorem allS_drop {L : Int} {X : List E} {i : Nat} (h : i < X.length) : AllS L (X.drop i) ↔ OfS L (X.getD i 0) ∧ AllS L (X.drop (i + 1)) := by
  rw [List.drop_eq_getElem_cons h]
  have : X.getD i 0 = X[i] := by rw [List.getD_eq_getElem?_getD, List.getElem?_eq_getElem h]; rfl
  rw [this]
  exact List.forall_mem_cons
theorem map_take_succ {α β : Type} (f : α → β) (X : List α) (d : α) (i : Nat) (h : i < X.length) : (X.take (i + 1)).map f = (X.take i).map f ++ [f (X.getD i d)] := by
  rw [List.take_succ_eq_append_getElem h, List.map_append]
  have : X.getD i d = X[i] := by rw [List.getD_eq_getElem?_getD, List.getElem?_eq_getElem h]; rfl
  rw [this]; rfl
theorem Ref_l0 (X : List E) (hX : X.length ≤ 1000000) : ∀ (d i : Nat), i + d = X.length → Ev (fun k => steeplelaw01_Ref.l3 k (X.map toS) (i : Int) ((X.take i).map toR)) (X.map toR) := by
  intro d
  induction d with
  | zero =>
    intro i hi
    refine Ev.step (fun k => by rw [steeplelaw01_Ref.l3]) (Ev.neg (by rw [List.length_map]; omega) (Ev.ret' ?_))
    rw [List.take_of_length_le (by omega)]
  | succ d ih =>
    intro i hi
    have hi' : i < X.length := by omega
    refine Ev.step (fun k => by rw [steeplelaw01_Ref.l3]) (Ev.pos (by rw [List.length_map]; omega) (Ev.pos (Int.natCast_nonneg _) (Ev.pos (by rw [List.length_map]; omega) (Ev.pos (by rw [List.length_map, List.length_take, List.length_singleton]; omega) ?_))))
    simp only [rdS, toS_f0, toS_f1, w64_succ hi' (show X.length ≤ 4611686018427387904 by omega)]
    have hih := ih (i + 1) (by omega)
    rw [map_take_succ toR X 0 i hi'] at hih
    exact hih
theorem Ref_ev (X : List E) (hX : X.length ≤ 1000000) : Ev (fun k => steeplelaw01_Ref.f k (X.map toS)) (X.map toR) := Ref_l0 X hX X.length 0 (by omega)
theorem Same_l0 (X Y : List E) (hl : X.length = Y.length) (hX : X.length ≤ 1000000) : ∀ (d i : Nat), i + d = X.length → (∀ j, j < i → X.getD j 0 = Y.getD j 0) → Ev (fun k => steeplelaw01_Same.l4 k (X.map toS) (Y.map toR) (i : Int)) (decide (X = Y)) := by
  intro d
  induction d with
  | zero =>
    intro i hi h
    refine Ev.step (fun k => by rw [steeplelaw01_Same.l4]) (Ev.neg (by rw [List.length_map]; omega) (Ev.ret' ?_))
    symm; rw [decide_eq_true_eq]
    apply List.ext_getElem hl
    intro j h1 h2
    have := h j (by omega)
    simpa [List.getD_eq_getElem?_getD, h1, h2] using this
  | succ d ih =>
    intro i hid h
    have hi' : i < X.length := by omega
    refine Ev.step (fun k => by rw [steeplelaw01_Same.l4]) (Ev.pos (by rw [List.length_map]; omega) (Ev.pos (Int.natCast_nonneg _) (Ev.pos (by rw [List.length_map]; omega) (Ev.pos (Int.natCast_nonneg _) (Ev.pos (by rw [List.length_map]; omega) ?_)))))
    simp only [rdS, rdR, toS_f0, toS_f1, toR_f0, toR_f1, w64_succ hi' (show X.length ≤ 4611686018427387904 by omega)]
    by_cases c : X.getD i 0 = Y.getD i 0
    · refine Ev.pos (by rw [c]; exact ⟨rfl, rfl⟩) (ih (i + 1) (by omega) (fun j hj => ?_))
      by_cases e : j = i
      · rw [e]; exact c
      · exact h j (by omega)
    · refine Ev.neg (fun h => c (hl_inj h.1 h.2)) (Ev.ret' ?_)
      symm; rw [decide_eq_false_iff_not]
      rintro rfl; exact c rfl
theorem Same_ev (X Y : List E) (hX : X.length ≤ 1000000) : Ev (fun k => steeplelaw01_Same.f k (X.map toS) (Y.map toR)) (decide (X = Y)) := by
  unfold steeplelaw01_Same.f
  by_cases h : X.length = Y.length
  · exact Ev.pos (by rw [List.length_map, List.length_map]; omega) (Same_l0 X Y h hX X.length 0 (by omega) (fun j hj => by omega))
  · refine Ev.neg (by rw [List.length_map, List.length_map]; omega) (Ev.ret' ?_)
    symm; rw [decide_eq_false_iff_not]
    rintro rfl; exact h rfl
/-- The same element? as the program asks. -/
theorem eq_pair (x y : E) : (hi x == hi y && (lo x == lo y)) = decide (x = y) := by
  rw [Bool.eq_iff_iff, Bool.and_eq_true, beq_iff_eq, beq_iff_eq, decide_eq_true_eq]
  exact ⟨fun h => hl_inj h.1 h.2, fun h => by rw [h]; exact ⟨rfl, rfl⟩⟩
theorem eq_none (x : E) : (hi x == 0 && (lo x == 0)) = decide (x = 0) := by
  rw [← eq_pair, hi_zero, lo_zero]
end Go.Proofs.Ytmoekjdlpfjhiaa.Sp
namespace Go.Proofs.Ytmoekjdlpfjhiaa.Sp
open Go.Proofs.Ytmoekjdlpfjhiaa.V.B Go.RowKit Go.Proofs.Ytmoekjdlpfjhiaa.B Go.Proofs.Ytmoekjdlpfjhiaa.V.B.Ar Go.Proofs.Ytmoekjdlpfjhiaa.V.B.Tw
set_option linter.unusedVariables false
set_option linter.unusedSimpArgs false
theorem tw_lt {j v : Nat} (hj : j ≤ 6) (hv : v < Q 6) : tw 6 j v < Q 6 := by rw [tw_eq hj hv]; exact val_lt _
theorem shlw (a w : Nat) (hw : w ≤ 64) : shl .u64 (a : Int) (w : Int) = (((a * 2 ^ w) % 2 ^ 64 : Nat) : Int) := by
  unfold shl
  have h64 : IntKind.u64.bits = 64 := rfl
  rw [h64, Int.toNat_natCast, Nat.min_eq_left hw]
  have hc : ((a : Int) * 2 ^ w) = ((a * 2 ^ w : Nat) : Int) := by simp
  rw [hc]
  simp [IntKind.wrap, IntKind.bits, IntKind.signed]
/-- The generator of a level, as an element of the greatest one. -/
def gE (m : Nat) : E := of 7 (val (gen m))
theorem tw_hi {j : Nat} (hj : j ≤ 6) (x : T 6) : tw 6 j (val x) = val (of 6 (val (gen j)) * x) := by rw [tw_eq hj (val_lt x), of_val]
/-- The element with one bit. -/
def bitE (n : Nat) : E := of 7 (2 ^ n)
theorem bitE_hl {n : Nat} (hn : n < 128) : hi (bitE n) = (if n < 64 then 0 else ((2 ^ (n - 64) : Nat) : Int)) ∧ lo (bitE n) = (if n < 64 then ((2 ^ n : Nat) : Int) else 0) := by
  unfold bitE hi lo
  rw [of_succ, mk_fst, mk_snd]
  have hQ : Q 6 = 2 ^ 64 := rfl
  by_cases c : n < 64
  · have h1 : 2 ^ n < Q 6 := by rw [hQ]; exact Nat.pow_lt_pow_right (by decide) c
    rw [if_pos c, if_pos c, Nat.div_eq_of_lt h1, Nat.mod_eq_of_lt h1, val_of _ _ h1, of_zero, val_zero]; exact ⟨rfl, rfl⟩
  · have e : 2 ^ n = 2 ^ (n - 64) * Q 6 + 0 := by rw [hQ, ← Nat.pow_add, Nat.add_zero]; congr 1; omega
    have h2 : 2 ^ (n - 64) < Q 6 := by rw [hQ]; exact Nat.pow_lt_pow_right (by decide) (by omega)
    rw [if_neg c, if_neg c, e, join_div (Q_pos 6), join_mod (Q_pos 6), val_of _ _ h2, of_zero, val_zero]; exact ⟨rfl, rfl⟩
theorem refBit_ev (n : Nat) (hn : n < 128) : Ev (fun k => steepleref02_Bit.f k (n : Int)) (toR (bitE n)) := by
  obtain ⟨h1, h2⟩ := bitE_hl hn
  unfold steepleref02_Bit.f toR
  rw [h1, h2]
  refine Ev.neg (by omega) (Ev.neg (by omega) ?_)
  by_cases c : n < 64
  · rw [if_pos c, if_pos c]
    refine Ev.neg (by omega) ?_
    rw [u64_id (by omega) (by omega)]
    exact Ev.pos (Int.natCast_nonneg _) (Ev.ret' (by rw [shl_u64 n (by omega)]))
  · rw [if_neg c, if_neg c]
    refine Ev.pos (by omega) ?_
    have e : IntKind.u64.wrap (wrap64 ((n : Int) - 64)) = ((n - 64 : Nat) : Int) := by
      rw [w64_id (by omega) (by omega), u64_id (by omega) (by omega)]; omega
    rw [e]
    exact Ev.pos (Int.natCast_nonneg _) (Ev.ret' (by rw [shl_u64 (n - 64) (by omega)]))
theorem and_bit_ne (x n : Nat) : (x &&& 2 ^ n ≠ 0) ↔ x.testBit n = true := by
  constructor
  · intro h
    cases hb : x.testBit n with
    | true => rfl
    | false =>
      exfalso; apply h
      apply Nat.eq_of_testBit_eq
      intro i
      rw [Nat.testBit_and, Nat.zero_testBit]
      by_cases e : i = n
      · subst e; rw [hb, Bool.false_and]
      · rw [Nat.testBit_two_pow_of_ne (by omega), Bool.and_false]
  · intro h e
    have := congrArg (fun z => z.testBit n) e
    simp only [Nat.testBit_and, Nat.testBit_two_pow_self, Bool.and_true, Nat.zero_testBit] at this
    rw [h] at this; cases this
theorem hasBits (x : E) (n : Nat) (hn : n < 128) : ((Go.bits .or .u64 (Go.bits .and .u64 (lo x) (lo (bitE n))) (Go.bits .and .u64 (hi x) (hi (bitE n)))) != 0) = (val x).testBit n := by
  obtain ⟨h1, h2⟩ := bitE_hl hn
  have hx1 := val_lt x.1
  have hx2 := val_lt x.2
  have hQ : Q 6 = 2 ^ 64 := rfl
  rw [hQ] at hx1 hx2
  have hv : val x = 2 ^ 64 * val x.1 + val x.2 := by rw [val_succ, hQ, Nat.mul_comm]
  rw [h1, h2, hv]
  unfold hi lo
  by_cases c : n < 64
  · rw [if_pos c, if_pos c]
    have hp : 2 ^ n < 2 ^ 64 := Nat.pow_lt_pow_right (by decide) c
    have z : (0 : Int) = ((0 : Nat) : Int) := rfl
    rw [z, and_u64 _ _ hx2 hp, and_u64 _ _ hx1 (by decide), or_u64 _ _ (Nat.and_lt_two_pow _ hp) (Nat.and_lt_two_pow _ (by decide)), Nat.and_zero, Nat.or_zero]
    rw [Nat.testBit_two_pow_mul_add _ hx2, if_pos c, Bool.eq_iff_iff, ← and_bit_ne, bne_iff_ne]
    exact ⟨fun h e => h (by rw [e]), fun h e => h (by exact_mod_cast e)⟩
  · rw [if_neg c, if_neg c]
    have hp : 2 ^ (n - 64) < 2 ^ 64 := Nat.pow_lt_pow_right (by decide) (by omega)
    have z : (0 : Int) = ((0 : Nat) : Int) := rfl
    rw [z, and_u64 _ _ hx1 hp, and_u64 _ _ hx2 (by decide), or_u64 _ _ (Nat.and_lt_two_pow _ (by decide)) (Nat.and_lt_two_pow _ hp), Nat.and_zero, Nat.zero_or]
    rw [Nat.testBit_two_pow_mul_add _ hx2, if_neg c, Bool.eq_iff_iff, ← and_bit_ne, bne_iff_ne]
    exact ⟨fun h e => h (by rw [e]), fun h e => h (by exact_mod_cast e)⟩
theorem Has_ev (x : E) (n : Nat) (hn : n < 128) : Ev (fun k => steepleref02_Has.f k (toR x) (n : Int)) ((val x).testBit n) := by
  unfold steepleref02_Has.f
  refine Ev.bnd (refBit_ev n hn) (Ev.ret' (hasBits x n hn))
theorem and_one (n j : Nat) (hn : n < 2 ^ 63) (hj : j ≤ 64) : Go.bits .and .i64 (shr .i64 (n : Int) (j : Int)) 1 = (((n / 2 ^ j) % 2 : Nat) : Int) := by
  rw [shr_i64 n j hj]
  have := and_i64_mask (n / 2 ^ j) 1 (Nat.lt_of_le_of_lt (Nat.div_le_self _ _) hn) (by decide)
  simpa using this
end Go.Proofs.Ytmoekjdlpfjhiaa.Sp
namespace Go.Proofs.Ytmoekjdlpfjhiaa.Sp
open Go.Proofs.Ytmoekjdlpfjhiaa.V.B Go.RowKit Go.Proofs.Ytmoekjdlpfjhiaa.B Go.Proofs.Ytmoekjdlpfjhiaa.V.B.Ar Go.Proofs.Ytmoekjdlpfjhiaa.V.B.Tw
set_option linter.unusedVariables false
set_option linter.unusedSimpArgs false
/-- Sums. -/
def sumN (f : Nat → E) : Nat → E
  | 0 => 0
  | n + 1 => sumN f n + f n
theorem sumN_congr {f g : Nat → E} : ∀ n, (∀ i, i < n → f i = g i) → sumN f n = sumN g n
  | 0, _ => rfl
  | n + 1, h => by rw [sumN, sumN, sumN_congr n (fun i hi => h i (by omega)), h n (by omega)]
theorem sumN_add (f g : Nat → E) : ∀ n, sumN (fun i => f i + g i) n = sumN f n + sumN g n
  | 0 => (add_zero _).symm
  | n + 1 => by
    rw [sumN, sumN, sumN, sumN_add f g n]
    simp only [add_assoc, add_left_comm]
theorem sumN_mul (c : E) (f : Nat → E) : ∀ n, sumN (fun i => c * f i) n = c * sumN f n
  | 0 => (mul_zero _).symm
  | n + 1 => by rw [sumN, sumN, sumN_mul c f n, mul_add]
theorem sumN_zero : ∀ n, sumN (fun _ => (0 : E)) n = 0
  | 0 => rfl
  | n + 1 => by rw [sumN, sumN_zero n, add_zero]
theorem sumN_double (f : Nat → E) : ∀ n, sumN f (2 * n) = sumN (fun i => f (2 * i) + f (2 * i + 1)) n
  | 0 => rfl
  | n + 1 => by
    rw [show 2 * (n + 1) = 2 * n + 1 + 1 by omega, sumN, sumN, sumN, sumN_double f n, add_assoc]
theorem sumN_split (f : Nat → E) (m : Nat) : ∀ n, sumN f (m + n) = sumN f m + sumN (fun i => f (m + i)) n
  | 0 => (add_zero _).symm
  | n + 1 => by rw [← Nat.add_assoc, sumN, sumN, sumN_split f m n, add_assoc]
/-- A corner's weight at a point. -/
def weight : List E → Nat → E
  | [], _ => 1
  | p :: ps, i => (if i % 2 = 1 then p else 1 + p) * weight ps (i / 2)
/-- A table's value at a point. -/
def value (X P : List E) : E := sumN (fun i => X.getD i 0 * weight P i) X.length
/-- A table bound in its first variable. -/
def first (r : E) (X : List E) : List E := (List.range (X.length / 2)).map fun i => X.getD (2 * i) 0 + r * (X.getD (2 * i) 0 + X.getD (2 * i + 1) 0)
def firsts : List E → List E → List E
  | [], X => X
  | r :: rs, X => firsts rs (first r X)
theorem first_length (r : E) (X : List E) : (first r X).length = X.length / 2 := by simp [first]
theorem first_getD (r : E) (X : List E) (i : Nat) (h : i < X.length / 2) : (first r X).getD i 0 = X.getD (2 * i) 0 + r * (X.getD (2 * i) 0 + X.getD (2 * i + 1) 0) := by
  rw [List.getD_eq_getElem?_getD]; simp [first, h]
theorem between_eq (a b r : E) : a + r * (a + b) = (1 + r) * a + r * b := by
  rw [add_mul, one_mul, mul_add, add_assoc]
theorem value_first (X : List E) (r : E) (P : List E) (h : X.length = 2 * (X.length / 2)) : value X (r :: P) = value (first r X) P := by
  unfold value
  rw [first_length]
  conv => lhs; rw [h]
  rw [sumN_double]
  apply sumN_congr
  intro i hi
  rw [first_getD r X i hi, weight, weight, if_neg (by omega), if_pos (by omega), show 2 * i / 2 = i by omega, show (2 * i + 1) / 2 = i by omega, between_eq]
  rw [← mul_assoc, ← mul_assoc, mul_comm (X.getD (2 * i) 0), mul_comm (X.getD (2 * i + 1) 0), ← add_mul]
theorem pow_len {X : List E} {k : Nat} (h : X.length = 2 ^ (k + 1)) : X.length = 2 * (X.length / 2) := by rw [h, Nat.pow_succ]; omega
theorem firsts_length : ∀ (R X : List E) (k : Nat), X.length = 2 ^ k → R.length ≤ k → (firsts R X).length = 2 ^ (k - R.length)
  | [], X, k, h, _ => by rw [firsts, h]; rfl
  | r :: rs, X, k, h, hk => by
    rw [List.length_cons] at hk
    obtain ⟨k', rfl⟩ : ∃ k', k = k' + 1 := ⟨k - 1, by omega⟩
    rw [firsts, firsts_length rs (first r X) k' (by rw [first_length, h, Nat.pow_succ]; omega) (by omega), List.length_cons]
    congr 1; omega
theorem value_firsts : ∀ (R X P : List E) (k : Nat), X.length = 2 ^ k → R.length ≤ k → value X (R ++ P) = value (firsts R X) P
  | [], X, P, k, _, _ => rfl
  | r :: rs, X, P, k, h, hk => by
    rw [List.length_cons] at hk
    obtain ⟨k', rfl⟩ : ∃ k', k = k' + 1 := ⟨k - 1, by omega⟩
    rw [List.cons_append, value_first X r (rs ++ P) (pow_len h), firsts]
    exact value_firsts rs (first r X) P k' (by rw [first_length, h, Nat.pow_succ]; omega) (by omega)
theorem value_nil {X : List E} (h : X.length = 1) : value X [] = X.getD 0 0 := by
  unfold value; rw [h, sumN, sumN, zero_add, weight, mul_one]
theorem value_eq (X P : List E) (h : X.length = 2 ^ P.length) : value X P = (firsts P X).getD 0 0 := by
  have := value_firsts P X [] P.length h (Nat.le_refl _)
  rw [List.append_nil] at this
  rw [this, value_nil (by rw [firsts_length P X P.length h (Nat.le_refl _), Nat.sub_self, Nat.pow_zero])]

/-- k of 2^k, as both tell it. -/
theorem map_set {α β : Type} (f : α → β) (X : List α) (i : Nat) (x : α) : (X.map f).set i (f x) = (X.set i x).map f := by rw [List.map_set]
theorem toS_mk (x : E) : (⟨hi x, lo x⟩ : S34) = toS x := rfl
theorem toR_mk (x : E) : (⟨hi x, lo x⟩ : S71) = toR x := rfl
theorem getD_set_self {X : List E} {i : Nat} (h : i < X.length) (x : E) : (X.set i x).getD i 0 = x := by
  rw [List.getD_eq_getElem?_getD, List.getElem?_set_self h]; rfl
theorem getD_set_ne {X : List E} {i j : Nat} (h : i ≠ j) (x : E) : (X.set i x).getD j 0 = X.getD j 0 := by
  rw [List.getD_eq_getElem?_getD, List.getD_eq_getElem?_getD, List.getElem?_set_ne h]
theorem ext_getD {X Y : List E} (hl : X.length = Y.length) (h : ∀ i, i < X.length → X.getD i 0 = Y.getD i 0) : X = Y := by
  apply List.ext_getElem hl
  intro j h1 h2
  have := h j h1
  simpa [List.getD_eq_getElem?_getD, h1, h2] using this
theorem getD_take {X : List E} {i m : Nat} (h : i < m) : (X.take m).getD i 0 = X.getD i 0 := by
  rw [List.getD_eq_getElem?_getD, List.getD_eq_getElem?_getD, List.getElem?_take_of_lt h]
theorem allS_getD {l : Nat} {X : List E} (h : AllS (l : Int) X) (i : Nat) : InL l (X.getD i 0) := by
  rw [List.getD_eq_getElem?_getD]
  by_cases c : i < X.length
  · rw [List.getElem?_eq_getElem c]
    have := (h _ (List.getElem_mem c)).2.2
    rw [Int.toNat_natCast] at this; exact this
  · rw [List.getElem?_eq_none (by omega)]; exact inL_zero l
theorem allS_first {l : Nat} (hl : l ≤ 7) {X : List E} {r : E} (hX : AllS (l : Int) X) (hr : InL l r) : AllS (l : Int) (first r X) := by
  intro x hx
  unfold first at hx
  rw [List.mem_map] at hx
  obtain ⟨i, _, rfl⟩ := hx
  refine ⟨by omega, by omega, ?_⟩
  rw [Int.toNat_natCast]
  exact inL_add (allS_getD hX _) (inL_mul hl hr (inL_add (allS_getD hX _) (allS_getD hX _)))
theorem half_len (n : Nat) (h : n ≤ 1000000) : wrap64 ((n : Int) / 2) = ((n / 2 : Nat) : Int) := by rw [w64_id (by omega) (by omega)]; omega
theorem w64_dbl {i : Nat} (h : i ≤ 1000000) : wrap64 (2 * (i : Int)) = ((2 * i : Nat) : Int) := by rw [w64_id (by omega) (by omega)]; omega
end Go.Proofs.Ytmoekjdlpfjhiaa.Sp
namespace Go.Proofs.Ytmoekjdlpfjhiaa.Sp
open Go.Proofs.Ytmoekjdlpfjhiaa.V.B Go.RowKit Go.Proofs.Ytmoekjdlpfjhiaa.B Go.Proofs.Ytmoekjdlpfjhiaa.V.B.Ar Go.Proofs.Ytmoekjdlpfjhiaa.V.B.Tw
set_option linter.unusedVariables false
/-- The pair of x and y: y beside each bit that x has. -/
def pick (b : Bool) (y : E) : E := if b then y else 0
theorem pick_true (y : E) : pick true y = y := if_pos rfl
theorem pick_false (y : E) : pick false y = 0 := if_neg Bool.false_ne_true
def pairX (n : Nat) (x y : E) : List E := (List.range n).map fun i => pick ((val x).testBit i) y
theorem pairX_length (n : Nat) (x y : E) : (pairX n x y).length = n := by simp [pairX]
theorem getD_rangeM {α : Type} (f : Nat → α) (d : α) (n i : Nat) (h : i < n) : ((List.range n).map f).getD i d = f i := by
  rw [List.getD_eq_getElem?_getD, List.getElem?_map, List.getElem?_range h]; rfl
theorem range_succM {α : Type} (f : Nat → α) (n : Nat) : (List.range (n + 1)).map f = (List.range n).map f ++ [f n] := by
  rw [List.range_succ, List.map_append]; rfl
theorem pairX_getD (n : Nat) (x y : E) (i : Nat) (h : i < n) : (pairX n x y).getD i 0 = pick ((val x).testBit i) y := getD_rangeM (fun i => pick ((val x).testBit i) y) 0 n i h
theorem pairX_succ (n : Nat) (x y : E) : pairX (n + 1) x y = pairX n x y ++ [pick ((val x).testBit n) y] := range_succM _ n
theorem w128 {l : Nat} (hl : l ≤ 7) : 2 ^ l ≤ 128 := Nat.pow_le_pow_right (n := 2) (by decide) hl
theorem lv_of {L : Int} {x : E} (h : OfS L x) : LvS L := ⟨h.1, h.2.1⟩
theorem rep_zero (n : Nat) : List.replicate n z34 = (List.replicate n (0 : E)).map toS := by rw [List.map_replicate, toS_zero]
def leftO (L : Int) (x : E) : List E := if OfS L x then pairX (2 ^ L.toNat) x 1 else []
def rightO (L : Int) (x : E) : List E := if OfS L x then pairX (2 ^ L.toNat) 1 x else []
theorem one_bit (i : Nat) : (val (1 : E)).testBit i = decide (i = 0) := by
  rw [val_one, show (1 : Nat) = 2 ^ 0 from rfl, Nat.testBit_two_pow]
  simp [eq_comm]
theorem pairX_one (n : Nat) (x : E) (hn : 0 < n) : pairX n 1 x = (List.replicate n (0 : E)).set 0 x := by
  apply List.ext_getElem
  · rw [pairX_length]; simp
  · intro i h1 h2
    rw [pairX_length] at h1
    have e1 : (pairX n 1 x)[i] = (pairX n 1 x).getD i 0 := by rw [List.getD_eq_getElem?_getD, List.getElem?_eq_getElem (by rw [pairX_length]; exact h1)]; rfl
    rw [e1, pairX_getD n 1 x i h1, one_bit, List.getElem_set]
    by_cases c : i = 0
    · subst c; simp [pick_true]
    · rw [decide_eq_false c, pick_false, if_neg (fun h => c h.symm), List.getElem_replicate]
end Go.Proofs.Ytmoekjdlpfjhiaa.Sp
namespace Go.Proofs.Ytmoekjdlpfjhiaa.Sp
open Go.Proofs.Ytmoekjdlpfjhiaa.V.B Go.RowKit Go.Proofs.Ytmoekjdlpfjhiaa.B Go.Proofs.Ytmoekjdlpfjhiaa.V.B.Ar Go.Proofs.Ytmoekjdlpfjhiaa.V.B.Tw
set_option linter.unusedVariables false
theorem pick_add (b : Bool) (y z : E) : pick b (y + z) = pick b y + pick b z := by
  cases b
  · rw [pick_false, pick_false, pick_false, add_zero]
  · rw [pick_true, pick_true, pick_true]
theorem pick_mul (b : Bool) (y z : E) : pick b (y * z) = pick b y * z := by
  cases b
  · rw [pick_false, pick_false, zero_mul]
  · rw [pick_true, pick_true]
theorem pick_zero (b : Bool) : pick b (0 : E) = 0 := by
  cases b
  · exact pick_false _
  · exact pick_true _
theorem pick_xor (a b : Bool) (y : E) : pick (a ^^ b) y = pick a y + pick b y := by
  cases a <;> cases b
  · show pick false y = _; rw [pick_false, add_zero]
  · show pick true y = _; rw [pick_false, pick_true, zero_add]
  · show pick true y = _; rw [pick_false, pick_true, add_zero]
  · show pick false y = _; rw [pick_false, pick_true, add_self]
theorem pick_comm (a b : Bool) (y : E) : pick a (pick b y) = pick b (pick a y) := by
  cases a <;> cases b <;> simp only [pick_true, pick_false]
/-- Has an element the bit? -/
def hasB (x : E) (k : Nat) : Bool := (val x).testBit k
theorem hasB_add (x y : E) (k : Nat) : hasB (x + y) k = (hasB x k ^^ hasB y k) := by
  unfold hasB; rw [val_add, Nat.testBit_xor]
theorem hasB_zero (k : Nat) : hasB 0 k = false := by unfold hasB; rw [val_zero, Nat.zero_testBit]
/-- What the bit k of z picks of y is a sum in z. -/
theorem pick_hasB_add (x z y : E) (k : Nat) : pick (hasB (x + z) k) y = pick (hasB x k) y + pick (hasB z k) y := by rw [hasB_add, pick_xor]
theorem pick_hasB_sum (f : Nat → E) (y : E) (k : Nat) : ∀ n, pick (hasB (sumN f n) k) y = sumN (fun u => pick (hasB (f u) k) y) n
  | 0 => by rw [sumN, sumN, hasB_zero, pick_false]
  | n + 1 => by rw [sumN, sumN, pick_hasB_add, pick_hasB_sum f y k n]
theorem pick_hasB_pick (b : Bool) (x y : E) (k : Nat) : pick (hasB (pick b x) k) y = pick b (pick (hasB x k) y) := by
  cases b
  · rw [pick_false, pick_false, hasB_zero, pick_false]
  · rw [pick_true, pick_true]
theorem pick_sum (b : Bool) (f : Nat → E) : ∀ n, pick b (sumN f n) = sumN (fun u => pick b (f u)) n
  | 0 => pick_zero b
  | n + 1 => by rw [sumN, sumN, pick_add, pick_sum b f n]
theorem sumN_mulr (c : E) (f : Nat → E) (n : Nat) : sumN (fun i => f i * c) n = sumN f n * c := by
  rw [mul_comm, ← sumN_mul]
  exact sumN_congr n (fun i _ => mul_comm _ _)
theorem sumN_swap (f : Nat → Nat → E) (n : Nat) : ∀ m, sumN (fun i => sumN (fun j => f i j) m) n = sumN (fun j => sumN (fun i => f i j) n) m
  | 0 => sumN_zero n
  | m + 1 => by
    rw [sumN, ← sumN_swap f n m, ← sumN_add]
    exact sumN_congr n (fun i _ => rfl)
theorem sumN_one (f : Nat → E) (n i : Nat) (hi : i < n) (h : ∀ j, j < n → j ≠ i → f j = 0) : sumN f n = f i := by
  induction n with
  | zero => omega
  | succ n ih =>
    rw [sumN]
    by_cases c : i = n
    · subst c
      have : sumN f i = 0 := by
        rw [sumN_congr (g := fun _ => 0) i (fun j hj => h j (by omega) (by omega))]; exact sumN_zero i
      rw [this, zero_add]
    · rw [ih (by omega) (fun j hj hne => h j (by omega) hne), h n (by omega) (fun e => c e.symm), add_zero]
theorem val_bitE {n : Nat} (hn : n < 128) : val (bitE n) = 2 ^ n := by
  unfold bitE
  exact val_of 7 _ (by rw [Q_seven]; exact Nat.pow_lt_pow_right (by decide) hn)
theorem val_pick (b : Bool) (x : E) : val (pick b x) = if b then val x else 0 := by
  cases b
  · rw [pick_false, val_zero]; rfl
  · rw [pick_true]; rfl
/-- An element is the sum of its bits. -/
theorem val_expand (x : E) : ∀ n, n ≤ 128 → val (sumN (fun u => pick (hasB x u) (bitE u)) n) = val x % 2 ^ n
  | 0, _ => by rw [sumN, val_zero, Nat.pow_zero, Nat.mod_one]
  | n + 1, h => by
    rw [sumN, val_add, val_expand x n (by omega), val_pick, val_bitE (by omega)]
    apply Nat.eq_of_testBit_eq
    intro j
    rw [Nat.testBit_xor, Nat.testBit_mod_two_pow, Nat.testBit_mod_two_pow]
    show _ = _
    unfold hasB
    generalize val x = v
    by_cases c : j = n
    · subst c
      cases hb : v.testBit j with
      | true => rw [if_pos rfl, Nat.testBit_two_pow_self]; simp
      | false => rw [if_neg Bool.false_ne_true, Nat.zero_testBit]; simp
    · have h2 : (if v.testBit n then 2 ^ n else 0 : Nat).testBit j = false := by
        cases v.testBit n with
        | true => rw [if_pos rfl, Nat.testBit_two_pow]; simp; omega
        | false => rw [if_neg Bool.false_ne_true, Nat.zero_testBit]
      rw [h2, Bool.xor_false]
      have : decide (j < n + 1) = decide (j < n) := by rw [decide_eq_decide]; omega
      rw [this]
theorem expand {l : Nat} (hl : l ≤ 7) {x : E} (hx : InL l x) : sumN (fun u => pick (hasB x u) (bitE u)) (2 ^ l) = x := by
  apply val_inj
  rw [val_expand x (2 ^ l) (w128 hl)]
  exact Nat.mod_eq_of_lt hx
theorem bitE_in {l u : Nat} (hl : l ≤ 7) (hu : u < 2 ^ l) : InL l (bitE u) := by
  unfold InL Q
  rw [val_bitE (Nat.lt_of_lt_of_le hu (w128 hl))]
  exact Nat.pow_lt_pow_right (by decide) hu
theorem bitE_zero : bitE 0 = 1 := by
  apply val_inj; rw [val_bitE (by decide), val_one]
/-- The bits of a product are sums of those of the products of bits. -/
theorem has_mul {l : Nat} (hl : l ≤ 7) {x : E} (hx : InL l x) (a y : E) (k : Nat) : sumN (fun u => pick (hasB x u) (pick (hasB (bitE u * a) k) y)) (2 ^ l) = pick (hasB (x * a) k) y := by
  have h1 : x * a = sumN (fun u => pick (hasB x u) (bitE u * a)) (2 ^ l) := by
    conv => lhs; rw [← expand hl hx]
    rw [← sumN_mulr]
    exact sumN_congr _ (fun u _ => (pick_mul _ _ _).symm)
  rw [h1, pick_hasB_sum]
  exact sumN_congr _ (fun u _ => (pick_hasB_pick _ _ _ _).symm)
/-- Part k of a tensor times an element on the left, its parts times another one. -/
def actT (n : Nat) (t : Nat → E) (a p : E) (k : Nat) : E := sumN (fun u => pick (hasB (bitE u * a) k) (t u * p)) n
theorem actT_pair {l : Nat} (hl : l ≤ 7) {x : E} (hx : InL l x) (y a p : E) (k : Nat) : actT (2 ^ l) (fun u => pick (hasB x u) y) a p k = pick (hasB (x * a) k) (y * p) := by
  unfold actT
  rw [← has_mul hl hx a (y * p) k]
  exact sumN_congr _ (fun u _ => by rw [← pick_mul, pick_comm])
theorem actT_congr (n : Nat) {t s : Nat → E} (a p : E) (k : Nat) (h : ∀ u, u < n → t u = s u) : actT n t a p k = actT n s a p k := by
  unfold actT; exact sumN_congr _ (fun u hu => by rw [h u hu])
theorem actT_sum (n m : Nat) (t : Nat → Nat → E) (a p : E) (k : Nat) : actT n (fun u => sumN (fun i => t i u) m) a p k = sumN (fun i => actT n (t i) a p k) m := by
  unfold actT
  rw [sumN_swap (fun i u => pick (hasB (bitE u * a) k) (t i u * p)) m n]
  exact sumN_congr _ (fun u _ => by rw [← sumN_mulr, pick_sum])
theorem actT_add (n : Nat) (t s : Nat → E) (a p : E) (k : Nat) : actT n (fun u => t u + s u) a p k = actT n t a p k + actT n s a p k := by
  unfold actT
  rw [← sumN_add]
  exact sumN_congr _ (fun u _ => by rw [add_mul, pick_add])
theorem pick_in {l : Nat} {x : E} (b : Bool) (h : InL l x) : InL l (pick b x) := by
  cases b
  · rw [pick_false]; exact inL_zero l
  · rw [pick_true]; exact h
theorem sumN_in {l : Nat} (f : Nat → E) : ∀ n, (∀ i, i < n → InL l (f i)) → InL l (sumN f n)
  | 0, _ => inL_zero l
  | n + 1, h => by rw [sumN]; exact inL_add (sumN_in f n (fun i hi => h i (by omega))) (h n (by omega))
theorem actT_in {l : Nat} (hl : l ≤ 7) (n : Nat) (t : Nat → E) (a p : E) (k : Nat) (ht : ∀ u, u < n → InL l (t u)) (hp : InL l p) : InL l (actT n t a p k) :=
  sumN_in _ n (fun u hu => pick_in _ (inL_mul hl (ht u hu) hp))
/-- Weights, variable by variable from behind. -/
theorem weight_in {l : Nat} (hl : l ≤ 7) : ∀ (P : List E) (i : Nat), (∀ p ∈ P, InL l p) → InL l (weight P i)
  | [], i, _ => inL_one l
  | p :: ps, i, h => by
    have hp := h p List.mem_cons_self
    rw [weight]
    refine inL_mul hl ?_ (weight_in hl ps (i / 2) (fun q hq => h q (List.mem_cons_of_mem _ hq)))
    split
    · exact hp
    · exact inL_add (inL_one l) hp
theorem weight_snoc (p : E) : ∀ (P : List E) (i : Nat), weight (P ++ [p]) i = weight P i * (if i / 2 ^ P.length % 2 = 1 then p else 1 + p)
  | [], i => by
    show weight (p :: []) i = weight [] i * _
    rw [weight, weight, weight, mul_one, one_mul]
    simp
  | q :: Q, i => by
    show weight (q :: (Q ++ [p])) i = weight (q :: Q) i * _
    rw [weight, weight, weight_snoc p Q (i / 2), mul_assoc, Nat.div_div_eq_div_mul, List.length_cons, Nat.pow_succ, Nat.mul_comm 2]
theorem weight_high (b : Nat) : ∀ (P : List E) (i : Nat), i < 2 ^ P.length → weight P (2 ^ P.length * b + i) = weight P i
  | [], i, _ => rfl
  | q :: Q, i, h => by
    rw [List.length_cons, Nat.pow_succ] at h
    have e1 : (2 ^ (q :: Q).length * b + i) % 2 = i % 2 := by
      rw [List.length_cons, Nat.pow_succ, Nat.mul_comm (2 ^ Q.length) 2, Nat.mul_assoc]; omega
    have e2 : (2 ^ (q :: Q).length * b + i) / 2 = 2 ^ Q.length * b + i / 2 := by
      rw [List.length_cons, Nat.pow_succ, Nat.mul_comm (2 ^ Q.length) 2, Nat.mul_assoc]; omega
    rw [weight, weight, e1, e2, weight_high b Q (i / 2) (by omega)]
theorem weight_low (p : E) (P : List E) (i : Nat) (h : i < 2 ^ P.length) : weight (P ++ [p]) i = weight P i * (1 + p) := by
  rw [weight_snoc, Nat.div_eq_of_lt h]; rfl
theorem weight_up (p : E) (P : List E) (i : Nat) (h : i < 2 ^ P.length) : weight (P ++ [p]) (2 ^ P.length + i) = weight P i * p := by
  have h0 := weight_high 1 P i h
  rw [Nat.mul_one] at h0
  have e : (2 ^ P.length + i) / 2 ^ P.length % 2 = 1 := by
    rw [Nat.add_div_left _ (Nat.two_pow_pos _), Nat.div_eq_of_lt h]
  rw [weight_snoc, h0, e]; rfl
/-- How alike two points are, part by part. -/
def alikeX (P R : List E) (k : Nat) : E := sumN (fun i => pick (hasB (weight P i) k) (weight R i)) (2 ^ P.length)
theorem alikeX_nil (k : Nat) : alikeX [] [] k = pick (hasB 1 k) 1 := by
  unfold alikeX
  show sumN _ 1 = _
  rw [sumN, sumN, zero_add]; rfl
theorem alikeX_snoc {l : Nat} (hl : l ≤ 7) (P R : List E) (p r : E) (hP : ∀ x ∈ P, InL l x) (hlen : P.length = R.length) (k : Nat) :
    alikeX (P ++ [p]) (R ++ [r]) k = alikeX P R k + actT (2 ^ l) (alikeX P R) p 1 k + alikeX P R k * r := by
  have e1 : actT (2 ^ l) (alikeX P R) p 1 k = sumN (fun i => pick (hasB (weight P i * p) k) (weight R i)) (2 ^ P.length) := by
    unfold alikeX
    rw [actT_sum]
    exact sumN_congr _ (fun i _ => by rw [actT_pair hl (weight_in hl P i hP), mul_one])
  have e2 : alikeX P R k * r = sumN (fun i => pick (hasB (weight P i) k) (weight R i * r)) (2 ^ P.length) := by
    unfold alikeX
    rw [← sumN_mulr]
    exact sumN_congr _ (fun i _ => (pick_mul _ _ _).symm)
  rw [e1, e2]
  unfold alikeX
  rw [← sumN_add, ← sumN_add, List.length_append, List.length_singleton, Nat.pow_succ, Nat.mul_two, sumN_split, ← sumN_add]
  apply sumN_congr
  intro i hi
  have hi' : i < 2 ^ R.length := by rw [← hlen]; exact hi
  rw [weight_low p P i hi, weight_up p P i hi, weight_low r R i hi', show 2 ^ P.length + i = 2 ^ R.length + i by rw [hlen], weight_up r R i hi']
  generalize weight P i = w
  generalize weight R i = v
  rw [mul_add, mul_add, mul_one, mul_one, pick_hasB_add, pick_add, pick_add]
  generalize pick (hasB w k) v = a
  generalize pick (hasB (w * p) k) v = b
  generalize pick (hasB w k) (v * r) = c
  generalize pick (hasB (w * p) k) (v * r) = d
  have : a + c + (b + d) + d = a + b + c := by
    rw [add_assoc (a + c), add_assoc b d d, add_self, add_zero, add_assoc a c b, add_comm c b, ← add_assoc]
  exact this
end Go.Proofs.Ytmoekjdlpfjhiaa.Sp
namespace Go.Proofs.Ytmoekjdlpfjhiaa.Sp
open Go.Proofs.Ytmoekjdlpfjhiaa.V.B Go.RowKit Go.Proofs.Ytmoekjdlpfjhiaa.B Go.Proofs.Ytmoekjdlpfjhiaa.V.B.Ar Go.Proofs.Ytmoekjdlpfjhiaa.V.B.Tw
set_option linter.unusedVariables false
/-- A list of so many elements. -/
def tabL (n : Nat) (f : Nat → E) : List E := (List.range n).map f
theorem tabL_length (n : Nat) (f : Nat → E) : (tabL n f).length = n := by simp [tabL]
theorem tabL_getD (n : Nat) (f : Nat → E) (i : Nat) (h : i < n) : (tabL n f).getD i 0 = f i := getD_rangeM f 0 n i h
theorem tabL_congr (n : Nat) {f g : Nat → E} (h : ∀ i, i < n → f i = g i) : tabL n f = tabL n g := by
  unfold tabL
  apply List.map_congr_left
  intro i hi
  exact h i (List.mem_range.1 hi)
theorem tabL_self (X : List E) : tabL X.length (fun i => X.getD i 0) = X := by
  apply ext_getD (tabL_length _ _)
  intro i hi
  rw [tabL_length] at hi
  exact tabL_getD _ _ i hi
theorem tabL_set (n : Nat) (f g : Nat → E) (i : Nat) (hi : i < n) (hg : ∀ k, k < n → k ≠ i → g k = f k) : (tabL n f).set i (g i) = tabL n g := by
  apply ext_getD
  · rw [List.length_set, tabL_length, tabL_length]
  · intro k hk
    rw [List.length_set, tabL_length] at hk
    rw [tabL_getD n g k hk]
    by_cases c : i = k
    · subst c
      exact getD_set_self (by rw [tabL_length]; exact hi) _
    · rw [getD_set_ne c, tabL_getD n f k hk, hg k hk (fun e => c e.symm)]
theorem tabL_replicate (n : Nat) : List.replicate n (0 : E) = tabL n (fun _ => 0) := by
  apply ext_getD
  · rw [List.length_replicate, tabL_length]
  · intro i hi
    rw [List.length_replicate] at hi
    rw [tabL_getD n _ i hi, List.getD_eq_getElem?_getD, List.getElem?_replicate, if_pos hi]; rfl
theorem tabL_all {l : Nat} (hl : l ≤ 7) (n : Nat) (f : Nat → E) (h : ∀ i, i < n → InL l (f i)) : AllS (l : Int) (tabL n f) := by
  intro x hx
  unfold tabL at hx
  obtain ⟨i, hi, rfl⟩ := List.mem_map.1 hx
  exact ⟨by omega, by omega, by rw [Int.toNat_natCast]; exact h i (List.mem_range.1 hi)⟩
theorem ofS_of {l : Nat} (hl : l ≤ 7) {x : E} (h : InL l x) : OfS (l : Int) x := ⟨by omega, by omega, by rw [Int.toNat_natCast]; exact h⟩
theorem inL_of {l : Nat} {x : E} (h : OfS (l : Int) x) : InL l x := by have := h.2.2; rwa [Int.toNat_natCast] at this
/-- One product's bits, each with y, added to what there is. -/
def bitAdd (f : Nat → E) (z y : E) (i k : Nat) : E := f k + pick (decide (k < i) && hasB z k) y
theorem bitAdd_zero (f : Nat → E) (z y : E) (k : Nat) : bitAdd f z y 0 k = f k := by
  unfold bitAdd
  rw [decide_eq_false (Nat.not_lt_zero k), Bool.false_and, pick_false, add_zero]
theorem bitAdd_at (f : Nat → E) (z y : E) (i : Nat) : bitAdd f z y i i = f i := by
  unfold bitAdd
  rw [decide_eq_false (Nat.lt_irrefl i), Bool.false_and, pick_false, add_zero]
theorem bitAdd_next (f : Nat → E) (z y : E) (i k : Nat) (h : k ≠ i) : bitAdd f z y (i + 1) k = bitAdd f z y i k := by
  unfold bitAdd
  have : decide (k < i + 1) = decide (k < i) := by rw [decide_eq_decide]; omega
  rw [this]
theorem bitAdd_now (f : Nat → E) (z y : E) (i : Nat) : bitAdd f z y (i + 1) i = f i + pick (hasB z i) y := by
  unfold bitAdd
  rw [decide_eq_true (Nat.lt_succ_self i), Bool.true_and]
theorem bitAdd_end (f : Nat → E) (z y : E) (n k : Nat) (h : k < n) : bitAdd f z y n k = f k + pick (hasB z k) y := by
  unfold bitAdd
  rw [decide_eq_true h, Bool.true_and]
-- @IF packvbyLeft
end Go.Proofs.Ytmoekjdlpfjhiaa.Sp
namespace Go.Proofs.Ytmoekjdlpfjhiaa.Sp
open Go.Proofs.Ytmoekjdlpfjhiaa.V.B Go.RowKit Go.Proofs.Ytmoekjdlpfjhiaa.B Go.Proofs.Ytmoekjdlpfjhiaa.V.B.Ar Go.Proofs.Ytmoekjdlpfjhiaa.V.B.Tw
set_option linter.unusedVariables false
set_option linter.unusedSimpArgs false
/-- The number of the first element that is not P, or -1. -/
theorem index_gen {α : Type} {l : Nat → List S34 → α → Int → Int → Option Int} {p : Nat → S34 → Option α → Option Bool} {P : E → Prop} [DecidablePred P] {a : α}
    (hs : ∀ k xs n i, l (k + 1) xs a n i = if i < n then (if 0 ≤ i then (if i < (xs.length : Int) then ((p k (rd34 xs i) (some a)).bind fun r => if r = true then some i else l k xs a n (wrap64 (i + 1))) else none) else none) else some (-1))
    (hp : ∀ x, Ev (fun k => p k (toS x) (some a)) (decide (¬ P x))) (X : List E) (hX : X.length ≤ 4611686018427387904) : ∀ (d i : Nat), i + d = X.length →
    ∃ r : Int, Ev (fun k => l k (X.map toS) a (X.length : Int) (i : Int)) r ∧ (r ≥ 0 ↔ ¬ ∀ x ∈ X.drop i, P x) := by
  intro d
  induction d with
  | zero =>
    intro i hi
    refine ⟨-1, Ev.step (fun k => hs k _ _ _) (Ev.neg (by omega) (Ev.ret _)), ?_⟩
    rw [List.drop_eq_nil_of_le (by omega)]
    exact ⟨fun h => absurd h (by decide), fun h => absurd (fun x hx => by cases hx) h⟩
  | succ d ih =>
    intro i hi
    have hi' : i < X.length := by omega
    obtain ⟨r, h1, h2⟩ := ih (i + 1) (by omega)
    have hd : (∀ x ∈ X.drop i, P x) ↔ P (X.getD i 0) ∧ ∀ x ∈ X.drop (i + 1), P x := by
      rw [List.drop_eq_getElem_cons hi']
      have : X.getD i 0 = X[i] := by rw [List.getD_eq_getElem?_getD, List.getElem?_eq_getElem hi']; rfl
      rw [this]
      exact List.forall_mem_cons
    have go : ∀ {r : Int}, Ev (fun k => (p k (rd34 (X.map toS) (i : Int)) (some a)).bind fun r => if r = true then some (i : Int) else l k (X.map toS) a (X.length : Int) (wrap64 ((i : Int) + 1))) r → Ev (fun k => l k (X.map toS) a (X.length : Int) (i : Int)) r := fun h =>
      Ev.step (fun k => hs k _ _ _) (Ev.pos (by omega) (Ev.pos (Int.natCast_nonneg _) (Ev.pos (by rw [List.length_map]; omega) h)))
    simp only [rdS, w64_succ hi' hX] at go
    by_cases c : P (X.getD i 0)
    · refine ⟨r, go (Ev.bnd (hp _) (Ev.neg (by simpa using c) h1)), h2.trans ?_⟩
      rw [hd]
      exact ⟨fun h g => h g.2, fun h g => h ⟨c, g⟩⟩
    · refine ⟨(i : Int), go (Ev.bnd (hp _) (Ev.pos (by simpa using c) (Ev.ret _))), ?_⟩
      rw [hd]
      exact ⟨fun _ g => c g.1, fun _ => Int.natCast_nonneg _⟩
end Go.Proofs.Ytmoekjdlpfjhiaa.Sp
namespace Go.Proofs.Ytmoekjdlpfjhiaa.Sp
open Go.Proofs.Ytmoekjdlpfjhiaa.V.B Go.RowKit Go.Proofs.Ytmoekjdlpfjhiaa.B Go.Proofs.Ytmoekjdlpfjhiaa.V.B.Ar Go.Proofs.Ytmoekjdlpfjhiaa.V.B.Tw
set_option linter.unusedVariables false
set_option linter.unusedSimpArgs false
/-- How many bits a number has. -/
def blen (n : Nat) : Nat := if n = 0 then 0 else Nat.log2 n + 1
theorem blen_le (n k : Nat) : blen n ≤ k ↔ n < 2 ^ k := by
  unfold blen
  by_cases h : n = 0
  · rw [if_pos h, h]
    exact ⟨fun _ => Nat.two_pow_pos k, fun _ => Nat.zero_le _⟩
  · rw [if_neg h, ← Nat.log2_lt h]
    exact ⟨fun h => h, fun h => h⟩
theorem blen_shift (n s : Nat) (h : 2 ^ s ≤ n) : blen n = blen (n / 2 ^ s) + s := by
  have key : ∀ k, blen n ≤ k + s ↔ blen (n / 2 ^ s) ≤ k := by
    intro k
    rw [blen_le, blen_le, Nat.div_lt_iff_lt_mul (Nat.two_pow_pos s), ← Nat.pow_add]
  have hs : s ≤ blen n := by
    apply Classical.byContradiction
    intro g
    have := (blen_le n s).1 (by omega)
    omega
  have h1 := (key (blen (n / 2 ^ s))).2 (Nat.le_refl _)
  have h2 := (key (blen n - s)).1 (by omega)
  omega
theorem len8_eq : ∀ b : Nat, b < 256 → bt by256_793 (b : Int) = ((blen b : Nat) : Int) := by decide +kernel
theorem u8_id {x : Int} (h0 : 0 ≤ x) (h1 : x < 256) : IntKind.u8.wrap x = x := by
  simp [IntKind.wrap, IntKind.bits, IntKind.signed]; omega
theorem len_j10 (n : Nat) (hn : n < 256) (x : Nat) (hx : x ≤ 1000) : Ev (fun k => math_bits_Len64.j10 k (n : Int) (x : Int)) ((x + blen n : Nat) : Int) := by
  have hb : blen n ≤ 8 := (blen_le n 8).2 hn
  refine Ev.step (fun k => by rw [math_bits_Len64.j10]) ?_
  rw [u8_id (by omega) (by omega), len8_eq n hn, w64_id (x := ((blen n : Nat) : Int)) (by omega) (by omega), w64_add (by omega) (by omega)]
  exact Ev.pos (by omega) (Ev.pos (by rw [show (ByteArray.size by256_793 : Int) = 256 from by decide +kernel]; omega) (Ev.ret _))
theorem len_j7 (n : Nat) (hn : n < 65536) (x : Nat) (hx : x ≤ 900) : Ev (fun k => math_bits_Len64.j7 k (n : Int) (x : Int)) ((x + blen n : Nat) : Int) := by
  refine Ev.step (fun k => by rw [math_bits_Len64.j7]) ?_
  by_cases c : (n : Int) ≥ 256
  · refine Ev.pos c ?_
    have e8 : wrap64 ((x : Int) + 8) = ((x + 8 : Nat) : Int) := by rw [w64_id (by omega) (by omega)]; omega
    have hb := blen_shift n 8 (by omega)
    rw [show (8 : Int) = ((8 : Nat) : Int) from rfl, shr_u64 n 8 (by decide)] at *
    rw [e8]
    have := len_j10 (n / 2 ^ 8) (by omega) (x + 8) (by omega)
    rwa [show x + 8 + blen (n / 2 ^ 8) = x + blen n by omega] at this
  · exact Ev.neg c (len_j10 n (by omega) x (by omega))
theorem Len64_ev (n : Nat) (hn : n < 2 ^ 64) : Ev (fun k => math_bits_Len64.f k (n : Int)) ((blen n : Nat) : Int) := by
  unfold math_bits_Len64.f
  have s32 : shr .u64 (n : Int) 32 = ((n / 2 ^ 32 : Nat) : Int) := shr_u64 n 32 (by decide)
  have s16 : ∀ m : Nat, shr .u64 (m : Int) 16 = ((m / 2 ^ 16 : Nat) : Int) := fun m => shr_u64 m 16 (by decide)
  have e0 : wrap64 ((32 : Int) + 16) = ((48 : Nat) : Int) := by decide +kernel
  have e1 : wrap64 ((0 : Int) + 16) = ((16 : Nat) : Int) := by decide +kernel
  by_cases c : (n : Int) ≥ 4294967296
  · refine Ev.pos c ?_
    have hb := blen_shift n 32 (by omega)
    rw [s32, s16, e0]
    generalize hq : n / 2 ^ 32 = q at hb
    by_cases d : (q : Int) ≥ 65536
    · have hb2 := blen_shift q 16 (by omega)
      have := len_j7 (q / 2 ^ 16) (by omega) 48 (by decide)
      rw [show 48 + blen (q / 2 ^ 16) = blen n by omega] at this
      exact Ev.pos d this
    · have := len_j7 q (by omega) 32 (by decide)
      rw [show 32 + blen q = blen n by omega] at this
      exact Ev.neg d this
  · refine Ev.neg c ?_
    rw [s16, e1]
    by_cases d : (n : Int) ≥ 65536
    · have hb2 := blen_shift n 16 (by omega)
      have := len_j7 (n / 2 ^ 16) (by omega) 16 (by decide)
      rw [show 16 + blen (n / 2 ^ 16) = blen n by omega] at this
      exact Ev.pos d this
    · have := len_j7 n (by omega) 0 (by decide)
      rw [Nat.zero_add] at this
      exact Ev.neg d this
/-- The leading bit. -/
theorem lead_ev (x : E) : Ev (fun k => span_lead.f k (toS x)) (((blen (val x) : Nat) : Int) - 1) := by
  have h1 := hi_bd x
  have h2 := lo_bd x
  have hv := val_hl x
  unfold span_lead.f
  rw [toS_f0, toS_f1]
  obtain ⟨h, hh⟩ := Int.eq_ofNat_of_zero_le h1.1
  obtain ⟨l, hl⟩ := Int.eq_ofNat_of_zero_le h2.1
  rw [hh] at h1 hv ⊢
  rw [hl] at h2 hv ⊢
  rw [Int.toNat_natCast, Int.toNat_natCast] at hv
  by_cases c : (h : Int) = 0
  · refine Ev.pos c (Ev.bnd (Len64_ev l (by omega)) (Ev.ret' ?_))
    have : val x = l := by omega
    rw [this]
    have hb : blen l ≤ 64 := (blen_le l 64).2 (by omega)
    exact w64_id (by omega) (by omega)
  · refine Ev.neg c (Ev.bnd (Len64_ev h (by omega)) (Ev.ret' ?_))
    have hb : blen h ≤ 64 := (blen_le h 64).2 (by omega)
    have hs := blen_shift (val x) 64 (by omega)
    have hd : val x / 2 ^ 64 = h := by omega
    rw [hd] at hs
    rw [hs, w64_id (by omega) (by omega)]
    omega
/-- Do all elements have bits below n alone? -/
def InN (n : Nat) (X : List E) : Prop := ∀ x ∈ X, val x < 2 ^ n
instance (n : Nat) (X : List E) : Decidable (InN n X) := by unfold InN; infer_instance
theorem within_ev (n : Nat) (X : List E) (hX : X.length ≤ 4611686018427387904) : Ev (fun k => span_within.f k (X.map toS) (n : Int)) (decide (InN n X)) := by
  have hp : ∀ x, Ev (fun k => span_within_1.f k (toS x) (some (n : Int))) (decide (¬ val x < 2 ^ n)) := fun x => Ev.bnd (lead_ev x) (Ev.ret' (by
    have := blen_le (val x) n
    rw [decide_eq_decide]
    omega))
  obtain ⟨r, h1, h2⟩ := index_gen (P := fun x => val x < 2 ^ n) (l := fun k xs a n i => slices_IndexFunc125_c132.l2 k xs a n i) (p := span_within_1.f) (fun k xs n i => by rw [slices_IndexFunc125_c132.l2]) hp X hX X.length 0 (by omega)
  unfold span_within.f slices_ContainsFunc98_c132.f slices_IndexFunc125_c132.f
  rw [List.length_map]
  refine Ev.bnd (Ev.bnd h1 (Ev.ret _)) (Ev.ret' ?_)
  have h2 : r ≥ 0 ↔ ¬ InN n X := h2
  by_cases c : InN n X
  · rw [decide_eq_true c, decide_eq_false (fun g => (h2.1 g) c)]; rfl
  · rw [decide_eq_false c, decide_eq_true (h2.2 c)]; rfl
theorem towerBit_ev (n : Nat) (hn : n < 128) : Ev (fun k => tower_Bit.f k (n : Int)) (toS (bitE n)) := by
  obtain ⟨h1, h2⟩ := bitE_hl hn
  unfold tower_Bit.f
  refine Ev.pos (Int.natCast_nonneg _) ?_
  by_cases c : n < 64
  · refine Ev.pos (by omega) (Ev.pos (Int.natCast_nonneg _) (Ev.ret' ?_))
    unfold toS
    rw [h1, h2, if_pos c, if_pos c, shl_u64 n (by omega)]
  · refine Ev.neg (by omega) (Ev.step (fun k => by rw [tower_Bit.j3]) (Ev.pos (by omega) (Ev.pos (by omega) ?_)))
    have e : wrap64 ((n : Int) - 64) = ((n - 64 : Nat) : Int) := by rw [w64_id (by omega) (by omega)]; omega
    rw [e]
    refine Ev.pos (Int.natCast_nonneg _) (Ev.ret' ?_)
    unfold toS
    rw [h1, h2, if_neg c, if_neg c, shl_u64 (n - 64) (by omega)]
theorem spanHas_ev (x : E) (n : Nat) (hn : n < 128) : Ev (fun k => span_has.f k (toS x) (n : Int)) (hasB x n) := by
  unfold span_has.f
  refine Ev.bnd (towerBit_ev n hn) (Ev.ret' ?_)
  rw [toS_f0, toS_f1, toS_f0, toS_f1]
  exact hasBits x n hn
/-- Bits turned about, as far as one has come. -/
def turnN (X : List E) (m j : Nat) : E := sumN (fun i => pick (hasB (X.getD i 0) j) (bitE i)) m
def turnL (X : List E) (n : Nat) : List E := tabL n (turnN X X.length)
theorem turn_l1 (n : Nat) (hn : n ≤ 128) (f : Nat → E) (z : E) (i : Nat) (hi128 : i < 128) (XS : List S34) (m : Int) {R : List S34 × Int}
    (h : Ev (fun k => span_Turn.l7 k (n : Int) XS m (wrap64 ((i : Int) + 1)) ((tabL n (fun q => f q + pick (hasB z q) (bitE i))).map toS)) R) :
    Ev (fun k => span_Turn.l10 k (n : Int) (i : Int) XS m (i : Int) (n : Int) 0 ((tabL n f).map toS) (hi z) (lo z)) R := by
  have e0 : tabL n f = tabL n (bitAdd f z (bitE i) 0) := tabL_congr _ (fun q _ => (bitAdd_zero _ _ _ q).symm)
  rw [e0]
  refine Ev.down (g := fun j k => span_Turn.l10 k (n : Int) (i : Int) XS m (i : Int) (n : Int) (j : Int) ((tabL n (bitAdd f z (bitE i) j)).map toS) (hi z) (lo z)) (n := n) ?_ fun j hj' hih => ?_
  · refine Ev.step (fun k => by rw [span_Turn.l10]) (Ev.neg (Int.lt_irrefl _) ?_)
    rw [tabL_congr _ (fun q hq => bitAdd_end f z (bitE i) n q hq)]
    exact h
  · have hg : (tabL n (bitAdd f z (bitE i) j)).getD j 0 = f j := by rw [tabL_getD _ _ j hj', bitAdd_at]
    have c3 : j < ((tabL n (bitAdd f z (bitE i) j)).map toS).length := by rw [List.length_map, tabL_length]; exact hj'
    refine Ev.step (fun k => by rw [span_Turn.l10]) (Ev.pos (by omega) ?_)
    rw [toS_mk]
    refine Ev.bnd (spanHas_ev z j (by omega)) ?_
    rw [w64_succ hj' (by omega)]
    cases c : hasB z j with
    | true =>
      refine Ev.pos rfl (Ev.ixS c3 (Ev.bnd (towerBit_ev i hi128) ?_))
      rw [rdS, hg]
      refine Ev.bnd (Add_ev _ _) (Ev.ixS c3 ?_)
      have e : ((tabL n (bitAdd f z (bitE i) j)).map toS).set (j : Int).toNat (toS (f j + bitE i)) = (tabL n (bitAdd f z (bitE i) (j + 1))).map toS := by
        rw [Int.toNat_natCast, map_set]
        have hn2 := bitAdd_now f z (bitE i) j
        rw [c, pick_true] at hn2
        rw [← hn2, tabL_set _ _ _ j hj' (fun q _ hne => bitAdd_next f z (bitE i) j q hne)]
      rw [e]
      exact hih
    | false =>
      refine Ev.neg Bool.false_ne_true ?_
      have e : tabL n (bitAdd f z (bitE i) (j + 1)) = tabL n (bitAdd f z (bitE i) j) := by
        apply tabL_congr
        intro q _
        by_cases cq : q = j
        · subst cq; rw [bitAdd_now, c, pick_false, add_zero, bitAdd_at]
        · exact bitAdd_next f z (bitE i) j q cq
      rw [e] at hih; exact hih
theorem Turn_ev (X : List E) (hX : X.length ≤ 128) (n : Nat) (hn : n ≤ 128) (hin : InN n X) : Ev (fun k => span_Turn.f k (X.map toS) (n : Int)) ((turnL X n).map toS, 0) := by
  unfold span_Turn.f
  rw [List.length_map]
  refine Ev.neg (by omega) (Ev.neg (by omega) (Ev.neg (by omega) (Ev.bnd (within_ev n X (by omega)) ?_)))
  rw [decide_eq_true hin]
  refine Ev.neg (by decide) (Ev.pos (Int.natCast_nonneg _) (Ev.pos (by omega) ?_))
  rw [Int.toNat_natCast, rep_zero, tabL_replicate]
  have e0 : tabL n (fun _ => (0 : E)) = tabL n (turnN X 0) := rfl
  rw [e0]
  refine Ev.down (g := fun i k => span_Turn.l7 k (n : Int) (X.map toS) (X.length : Int) (i : Int) ((tabL n (turnN X i)).map toS)) (n := X.length) ?_ fun i hi' hih => ?_
  · refine Ev.step (fun k => by rw [span_Turn.l7]) ?_
    exact Ev.neg (Int.lt_irrefl _) (Ev.ret _)
  · refine Ev.step (fun k => by rw [span_Turn.l7]) (Ev.pos (by omega) (Ev.ixS (by rw [List.length_map]; exact hi') ?_))
    rw [rdS, toS_f0, toS_f1]
    refine turn_l1 n hn (turnN X i) (X.getD i 0) i (by omega) _ _ ?_
    rw [w64_succ hi' (by omega)]
    have e1 : tabL n (fun q => turnN X i q + pick (hasB (X.getD i 0) q) (bitE i)) = tabL n (turnN X (i + 1)) := tabL_congr _ (fun q _ => by
      show _ = sumN _ (i + 1)
      rw [sumN]; rfl)
    rw [e1]
    exact hih
end Go.Proofs.Ytmoekjdlpfjhiaa.Sp
namespace Go.Proofs.Ytmoekjdlpfjhiaa.Sp
open Go.Proofs.Ytmoekjdlpfjhiaa.V.B Go.RowKit Go.Proofs.Ytmoekjdlpfjhiaa.B Go.Proofs.Ytmoekjdlpfjhiaa.V.B.Ar Go.Proofs.Ytmoekjdlpfjhiaa.V.B.Tw
set_option linter.unusedVariables false
set_option linter.unusedSimpArgs false
theorem blen_ld {x : E} (h : x ≠ 0) : blen (val x) = ld x + 1 := by
  have hv : val x ≠ 0 := fun e => h (val_eq_zero.1 e)
  unfold blen ld
  rw [if_neg hv]
theorem ld_lt (x : E) : ld x < 128 := by
  by_cases h : x = 0
  · subst h; unfold ld; rw [val_zero]; decide
  · have hv : val x ≠ 0 := fun e => h (val_eq_zero.1 e)
    have := val_lt x
    rw [Q_seven] at this
    exact (Nat.log2_lt hv).2 this
theorem lead_ne {x : E} (h : x ≠ 0) : Ev (fun k => span_lead.f k (toS x)) ((ld x : Nat) : Int) := by
  have := lead_ev x
  rw [blen_ld h] at this
  exact this.eqn (by omega)
theorem has_ev (x : E) {k : Nat} (h : k < 128) : Ev (fun q => span_has.f q (toS x) (k : Int)) (bitT x k) := spanHas_ev x k h
/-- An element without the leading bits of a basis. -/
theorem less_ev (R : List E) (hR : ∀ b ∈ R, b ≠ 0) (hn : R.length ≤ 1000000) (x : E) : Ev (fun k => span_less.f k (R.map toS) (toS x)) (toS (lessT R x)) := by
  unfold span_less.f
  rw [List.length_map]
  have key : ∀ (d i : Nat) (y : E), i + d = R.length → Ev (fun k => span_less.l2 k (R.map toS) (R.length : Int) (i : Int) (hi y) (lo y) 0 0) (toS (lessT (R.drop i) y)) := by
    intro d
    induction d with
    | zero =>
      intro i y hi'
      have : i = R.length := by omega
      subst this
      rw [List.drop_length]
      refine Ev.step (fun k => by rw [span_less.l2]) ?_
      exact Ev.neg (Int.lt_irrefl _) (Ev.ret' rfl)
    | succ d ih =>
      intro i y hi'
      have hlt : i < R.length := by omega
      have hd : R.drop i = R.getD i 0 :: R.drop (i + 1) := by rw [List.drop_eq_getElem_cons hlt, List.getD_eq_getElem?_getD, List.getElem?_eq_getElem hlt]; rfl
      have hne : R.getD i 0 ≠ 0 := hR _ (by rw [List.getD_eq_getElem?_getD, List.getElem?_eq_getElem hlt]; exact List.getElem_mem hlt)
      rw [hd, lessT]
      refine Ev.step (fun k => by rw [span_less.l2]) (Ev.pos (by omega) (Ev.ixS (by rw [List.length_map]; exact hlt) ?_))
      rw [rdS, w64_succ hlt (by omega)]
      refine Ev.bnd (lead_ne hne) (Ev.bnd (has_ev y (ld_lt _)) ?_)
      cases c : bitT y (ld (R.getD i 0)) with
      | true =>
        rw [if_pos rfl]
        exact Ev.pos rfl (Ev.bnd (Add_ev _ _) (ih (i + 1) _ (by omega)))
      | false =>
        rw [if_neg Bool.false_ne_true]
        exact Ev.neg Bool.false_ne_true (ih (i + 1) _ (by omega))
  have := key R.length 0 x (by omega)
  rw [List.drop_zero] at this
  exact this
end Go.Proofs.Ytmoekjdlpfjhiaa.Sp
namespace Go.Proofs.Ytmoekjdlpfjhiaa.Sp
open Go.Proofs.Ytmoekjdlpfjhiaa.V.B Go.RowKit Go.Proofs.Ytmoekjdlpfjhiaa.B Go.Proofs.Ytmoekjdlpfjhiaa.V.B.Ar Go.Proofs.Ytmoekjdlpfjhiaa.V.B.Tw
set_option linter.unusedVariables false
set_option linter.unusedSimpArgs false
theorem set_get (L : List E) (i : Nat) (x : E) (hi' : i < L.length) (p : Nat) : (L.set i x).getD p 0 = if p = i then x else L.getD p 0 := by
  rw [List.getD_eq_getElem?_getD, List.getD_eq_getElem?_getD, List.getElem?_set]
  by_cases c : p = i
  · subst c; rw [if_pos rfl, if_pos rfl, if_pos hi']; rfl
  · rw [if_neg (fun h => c h.symm), if_neg c]
theorem get_out (L : List E) {p : Nat} (h : L.length ≤ p) : L.getD p 0 = 0 := by
  rw [List.getD_eq_getElem?_getD, List.getElem?_eq_none h]; rfl
def swp (L : List E) (i j : Nat) : List E := (L.set i (L.getD j 0)).set j (L.getD i 0)
theorem swp_length (L : List E) (i j : Nat) : (swp L i j).length = L.length := by unfold swp; rw [List.length_set, List.length_set]
theorem swp_get (L : List E) {i j : Nat} (hi' : i < L.length) (hj : j < L.length) (p : Nat) : (swp L i j).getD p 0 = if p = j then L.getD i 0 else if p = i then L.getD j 0 else L.getD p 0 := by
  unfold swp
  rw [set_get _ _ _ (by rw [List.length_set]; exact hj), set_get _ _ _ hi']
def swI (i j p : Nat) : Nat := if p = j then i else if p = i then j else p
theorem swp_sw (L : List E) {i j : Nat} (hi' : i < L.length) (hj : j < L.length) (p : Nat) : (swp L i j).getD p 0 = L.getD (swI i j p) 0 := by
  rw [swp_get L hi' hj]
  unfold swI
  by_cases c : p = j
  · rw [if_pos c, if_pos c]
  · rw [if_neg c, if_neg c]
    by_cases d : p = i
    · rw [if_pos d, if_pos d]
    · rw [if_neg d, if_neg d]
theorem swI_lt {i j p n : Nat} (hi' : i < n) (hj : j < n) (hp : p < n) : swI i j p < n := by unfold swI; split <;> (try split) <;> omega
theorem swI_inj {i j p q : Nat} (h : p ≠ q) : swI i j p ≠ swI i j q := by unfold swI; split <;> split <;> (try split) <;> (try split) <;> omega
theorem swI_swI (i j p : Nat) : swI i j (swI i j p) = p := by
  unfold swI
  by_cases c : p = j
  · rw [if_pos c]
    by_cases d : i = j
    · rw [if_pos d]; omega
    · rw [if_neg d, if_pos rfl]; omega
  · rw [if_neg c]
    by_cases d : p = i
    · rw [if_pos d, if_pos rfl]; omega
    · rw [if_neg d, if_neg c, if_neg d]
theorem mem_get {L : List E} {x : E} : x ∈ L ↔ ∃ p, p < L.length ∧ L.getD p 0 = x := by
  constructor
  · intro h
    obtain ⟨i, hi', e⟩ := List.getElem_of_mem h
    exact ⟨i, hi', by rw [List.getD_eq_getElem?_getD, List.getElem?_eq_getElem hi']; exact e⟩
  · rintro ⟨p, hp, rfl⟩
    rw [List.getD_eq_getElem?_getD, List.getElem?_eq_getElem hp]
    exact List.getElem_mem hp
/-- Elements from a up to b have changed places. -/
structure Mv (a b : Nat) (L M : List E) : Prop where
  len : M.length = L.length
  out : ∀ p, p < a ∨ b ≤ p → M.getD p 0 = L.getD p 0
  inn : ∀ P : E → Prop, (∀ p, a ≤ p → p < b → P (L.getD p 0)) → ∀ p, a ≤ p → p < b → P (M.getD p 0)
  mem : ∀ x, x ∈ M ↔ x ∈ L
  dst : (∀ p q, p ≠ q → p < L.length → q < L.length → ld (L.getD p 0) ≠ ld (L.getD q 0)) → ∀ p q, p ≠ q → p < M.length → q < M.length → ld (M.getD p 0) ≠ ld (M.getD q 0)
theorem Mv.refl (a b : Nat) (L : List E) : Mv a b L L := ⟨rfl, fun _ _ => rfl, fun _ h => h, fun _ => Iff.rfl, fun h => h⟩
theorem Mv.trans {a b : Nat} {L M N : List E} (h : Mv a b L M) (k : Mv a b M N) : Mv a b L N :=
  ⟨k.len.trans h.len, fun p hp => (k.out p hp).trans (h.out p hp), fun P hP => k.inn P (h.inn P hP), fun x => (k.mem x).trans (h.mem x), fun hd => k.dst (h.dst hd)⟩
theorem Mv.swp {a b i j : Nat} {L : List E} (hb : b ≤ L.length) (ha : a ≤ i ∧ i < b) (hj : a ≤ j ∧ j < b) : Mv a b L (swp L i j) := by
  have h1 : i < L.length := by omega
  have h2 : j < L.length := by omega
  have inr : ∀ p, a ≤ p → p < b → a ≤ swI i j p ∧ swI i j p < b := fun p h3 h4 => by unfold swI; split <;> (try split) <;> omega
  refine ⟨swp_length L i j, fun p hp => ?_, fun P hP p h3 h4 => ?_, fun x => ?_, fun hd p q hpq hp hq => ?_⟩
  · rw [swp_get L h1 h2, if_neg (by omega), if_neg (by omega)]
  · rw [swp_sw L h1 h2]
    exact hP _ (inr p h3 h4).1 (inr p h3 h4).2
  · rw [mem_get, mem_get, swp_length]
    constructor
    · rintro ⟨p, hp, rfl⟩
      exact ⟨swI i j p, swI_lt h1 h2 hp, (swp_sw L h1 h2 p).symm⟩
    · rintro ⟨p, hp, rfl⟩
      exact ⟨swI i j p, swI_lt h1 h2 hp, by rw [swp_sw L h1 h2, swI_swI]⟩
  · rw [swp_length] at hp hq
    rw [swp_sw L h1 h2, swp_sw L h1 h2]
    exact hd _ _ (swI_inj hpq) (swI_lt h1 h2 hp) (swI_lt h1 h2 hq)
theorem Mv.more {a b c d : Nat} {L M : List E} (h : Mv a b L M) (hc : c ≤ a) (hd : b ≤ d) : Mv c d L M :=
  ⟨h.len, fun p hp => h.out p (by omega), fun P hP p h1 h2 => by
    by_cases k : a ≤ p ∧ p < b
    · exact h.inn P (fun q h3 h4 => hP q (by omega) (by omega)) p k.1 k.2
    · rw [h.out p (by omega)]; exact hP p h1 h2, h.mem, h.dst⟩
/-- Leading bits fall from a up to b. -/
def Fal (a b : Nat) (L : List E) : Prop := ∀ p q, a ≤ p → p < q → q < b → ld (L.getD q 0) < ld (L.getD p 0)
def Dis (L : List E) : Prop := ∀ p q, p ≠ q → p < L.length → q < L.length → ld (L.getD p 0) ≠ ld (L.getD q 0)
def Nez (L : List E) : Prop := ∀ x ∈ L, x ≠ 0
theorem Nez.get {L : List E} (h : Nez L) {p : Nat} (hp : p < L.length) : L.getD p 0 ≠ 0 := h _ (mem_get.2 ⟨p, hp, rfl⟩)
theorem Mv.nez {a b : Nat} {L M : List E} (h : Mv a b L M) (hn : Nez L) : Nez M := fun x hx => hn x ((h.mem x).1 hx)
theorem cmp_ev {x y : E} (hx : x ≠ 0) (hy : y ≠ 0) : Ev (fun k => span_put_1.f k (toS x) (toS y)) (((ld y : Nat) : Int) - ((ld x : Nat) : Int)) := by
  have := ld_lt x
  have := ld_lt y
  unfold span_put_1.f
  refine Ev.bnd (lead_ne hy) (Ev.bnd (lead_ne hx) (Ev.ret' ?_))
  exact w64_id (by omega) (by omega)
theorem ins_l4 {L0 : List E} (a b i : Nat) (hN : L0.length ≤ 1000000) (hb : b ≤ L0.length) (hib : i < b) : ∀ (d j : Nat) (L : List E), a + d = j → j ≤ i → L.length = L0.length → Nez L → Dis L →
    (∀ p q, a ≤ p → p < q → q ≤ i → p ≠ j → q ≠ j → ld (L.getD q 0) < ld (L.getD p 0)) → (∀ q, j < q → q ≤ i → ld (L.getD q 0) < ld (L.getD j 0)) →
    ∃ M, Mv a b L M ∧ Fal a (i + 1) M ∧ ∀ R : List S34, Ev (fun k => slices_insertionSortCmpFunc141_c112.l1 k (a : Int) (b : Int) () ((i + 1 : Nat) : Int) (M.map toS)) R → Ev (fun k => slices_insertionSortCmpFunc141_c112.l4 k (a : Int) (b : Int) () (i : Int) (j : Int) (L.map toS)) R := by
  intro d
  induction d with
  | zero =>
    intro j L hj hji hl hn hD h1 h2
    have hja : j = a := by omega
    subst hja
    refine ⟨L, Mv.refl _ _ _, fun p q h3 h4 h5 => ?_, fun R hR => ?_⟩
    · by_cases c : p = j
      · rw [c]; exact h2 q (by omega) (by omega)
      · exact h1 p q h3 h4 (by omega) c (by omega)
    · refine Ev.step (fun k => by rw [slices_insertionSortCmpFunc141_c112.l4]) (Ev.neg (by omega) ?_)
      rw [w64_succ hib (by omega)]
      exact hR
  | succ d ih =>
    intro j L hj hji hl hn hD h1 h2
    have f0 : (j : Int) > (a : Int) := by omega
    have f1 : j < (L.map toS).length := by rw [List.length_map]; omega
    have f2 : j - 1 < (L.map toS).length := by rw [List.length_map]; omega
    have f3 : j - 1 < ((L.map toS).set (Int.toNat (j : Int)) (toS (L.getD (j - 1) 0))).length := by rw [List.length_set]; exact f2
    have e1 : wrap64 ((j : Int) - 1) = ((j - 1 : Nat) : Int) := by rw [w64_id (by omega) (by omega)]; omega
    have hc := cmp_ev (hn.get (p := j) (by omega)) (hn.get (p := j - 1) (by omega))
    have hne := hD (j - 1) j (by omega) (by omega) (by omega)
    by_cases c : ld (L.getD (j - 1) 0) < ld (L.getD j 0)
    · have g := fun p => swp_get L (i := j) (j := j - 1) (by omega) (by omega) p
      have hmv : Mv a b L (swp L j (j - 1)) := Mv.swp (by omega) ⟨by omega, by omega⟩ ⟨by omega, by omega⟩
      obtain ⟨M, m1, m2, m3⟩ := ih (j - 1) (swp L j (j - 1)) (by omega) (by omega) (by rw [swp_length]; exact hl) (hmv.nez hn) (hmv.dst hD) (fun p q h3 h4 h5 h6 h7 => by
        rw [g, g, if_neg h7, if_neg h6]
        by_cases cq : q = j
        · rw [if_pos cq, if_neg (by omega)]
          exact h1 p (j - 1) h3 (by omega) (by omega) (by omega) (by omega)
        · rw [if_neg cq]
          by_cases cp : p = j
          · rw [if_pos cp]
            exact h1 (j - 1) q (by omega) (by omega) h5 (by omega) cq
          · rw [if_neg cp]
            exact h1 p q h3 h4 h5 cp cq) (fun q h3 h4 => by
        rw [g, g, if_neg (by omega), if_pos rfl]
        by_cases cq : q = j
        · rw [if_pos cq]; exact c
        · rw [if_neg cq]; exact h2 q (by omega) h4)
      refine ⟨M, hmv.trans m1, m2, fun R hR => ?_⟩
      refine Ev.step (fun k => by rw [slices_insertionSortCmpFunc141_c112.l4]) ?_
      rw [e1]
      refine Ev.pos f0 (Ev.ixS f1 (Ev.ixS f2 ?_))
      rw [rdS, rdS]
      refine Ev.bnd hc (Ev.pos (by omega) (Ev.ixS f2 (Ev.ixS f1 (Ev.ixS f1 (Ev.ixS f3 ?_)))))
      rw [Int.toNat_natCast, Int.toNat_natCast, map_set, map_set]
      exact m3 R hR
    · refine ⟨L, Mv.refl _ _ _, fun p q h3 h4 h5 => ?_, fun R hR => ?_⟩
      · by_cases cp : p = j
        · rw [cp]; exact h2 q (by omega) (by omega)
        · by_cases cq : q = j
          · rw [cq]
            by_cases c3 : p = j - 1
            · rw [c3]; omega
            · have := h1 p (j - 1) h3 (by omega) (by omega) cp (by omega)
              omega
          · exact h1 p q h3 h4 (by omega) cp cq
      · refine Ev.step (fun k => by rw [slices_insertionSortCmpFunc141_c112.l4]) ?_
        rw [e1]
        refine Ev.pos f0 (Ev.ixS f1 (Ev.ixS f2 ?_))
        rw [rdS, rdS]
        refine Ev.bnd hc (Ev.neg (by omega) ?_)
        rw [w64_succ hib (by omega)]
        exact hR
theorem ins_l1 {N : Nat} (a b : Nat) (hN : N ≤ 1000000) (hb : b ≤ N) : ∀ (d i : Nat) (L : List E), i + d = b → a ≤ i → L.length = N → Nez L → Dis L → Fal a i L →
    ∃ M, Mv a b L M ∧ Fal a b M ∧ Ev (fun k => slices_insertionSortCmpFunc141_c112.l1 k (a : Int) (b : Int) () (i : Int) (L.map toS)) (M.map toS) := by
  intro d
  induction d with
  | zero =>
    intro i L hi' ha hl hn hD hf
    have : i = b := by omega
    subst this
    refine ⟨L, Mv.refl _ _ _, hf, Ev.step (fun k => by rw [slices_insertionSortCmpFunc141_c112.l1]) ?_⟩
    exact Ev.neg (Int.lt_irrefl _) (Ev.ret _)
  | succ d ih =>
    intro i L hi' ha hl hn hD hf
    obtain ⟨M, m1, m2, m3⟩ := ins_l4 (L0 := L) a b i (by omega) (by omega) (by omega) (i - a) i L (by omega) (Nat.le_refl _) rfl hn hD (fun p q h3 h4 h5 h6 h7 => hf p q h3 h4 (by omega)) (fun q h3 h4 => by omega)
    obtain ⟨M', k1, k2, k3⟩ := ih (i + 1) M (by omega) (by omega) (by rw [m1.len]; exact hl) (m1.nez hn) (m1.dst hD) m2
    exact ⟨M', m1.trans k1, k2, Ev.step (fun k => by rw [slices_insertionSortCmpFunc141_c112.l1]) (Ev.pos (by omega) (m3 _ k3))⟩
theorem ins_ev (a b : Nat) {L : List E} (hN : L.length ≤ 1000000) (hab : a ≤ 1000000) (hb : b ≤ L.length) (hn : Nez L) (hD : Dis L) : ∃ M, Mv a b L M ∧ Fal a b M ∧ Ev (fun k => slices_insertionSortCmpFunc141_c112.f k (L.map toS) (a : Int) (b : Int) ()) (M.map toS) := by
  unfold slices_insertionSortCmpFunc141_c112.f
  have e : wrap64 ((a : Int) + 1) = ((a + 1 : Nat) : Int) := w64_succ (show a < a + 1 by omega) (by omega)
  rw [e]
  by_cases c : a + 1 ≤ b
  · exact ins_l1 a b hN hb (b - (a + 1)) (a + 1) L (by omega) (by omega) rfl hn hD (fun p q h1 h2 h3 => by omega)
  · refine ⟨L, Mv.refl _ _ _, fun p q h1 h2 h3 => by omega, Ev.step (fun k => by rw [slices_insertionSortCmpFunc141_c112.l1]) (Ev.neg (by omega) (Ev.ret _))⟩
end Go.Proofs.Ytmoekjdlpfjhiaa.Sp
namespace Go.Proofs.Ytmoekjdlpfjhiaa.Sp
open Go.Proofs.Ytmoekjdlpfjhiaa.V.B Go.RowKit Go.Proofs.Ytmoekjdlpfjhiaa.B Go.Proofs.Ytmoekjdlpfjhiaa.V.B.Ar Go.Proofs.Ytmoekjdlpfjhiaa.V.B.Tw
set_option linter.unusedVariables false
set_option linter.unusedSimpArgs false
/-- A list in order but for the last one. -/
structure Alm (L : List E) (n : Nat) : Prop where
  len : L.length = n
  nez : Nez L
  dis : Dis L
  fal : Fal 0 (n - 1) L
theorem ord_ev {L : List E} (hn : Nez L) {i j : Nat} (hi' : i < L.length) (hj : j < L.length) (h : ld (L.getD j 0) < ld (L.getD i 0)) (s : Int) : Ev (fun k => slices_order2CmpFunc156_c112.f k (L.map toS) (i : Int) (j : Int) (some s) ()) (some s, (i : Int), (j : Int)) := by
  have hc := cmp_ev (hn.get hj) (hn.get hi')
  unfold slices_order2CmpFunc156_c112.f
  dsimp only
  refine Ev.ixS (by rw [List.length_map]; exact hj) (Ev.ixS (by rw [List.length_map]; exact hi') ?_)
  rw [rdS, rdS]
  exact Ev.bnd hc (Ev.neg (by omega) (Ev.ret _))
theorem med_ev {L : List E} (hn : Nez L) {i j m : Nat} (hm : m < L.length) (hij : i < j) (hjm : j < m) (h1 : ld (L.getD j 0) < ld (L.getD i 0)) (h2 : ld (L.getD m 0) < ld (L.getD j 0)) : Ev (fun k => slices_medianCmpFunc155_c112.f k (L.map toS) (i : Int) (j : Int) (m : Int) (some 0) ()) (some 0, (j : Int)) := by
  unfold slices_medianCmpFunc155_c112.f
  dsimp only
  refine Ev.bnd (ord_ev hn (by omega) (by omega) h1 0) ?_
  dsimp only
  refine Ev.bnd (ord_ev hn (by omega) (by omega) h2 0) ?_
  dsimp only
  refine Ev.bnd (ord_ev hn (by omega) (by omega) h1 0) ?_
  dsimp only
  exact Ev.ret _
theorem cho_ev {L : List E} {n : Nat} (h : Alm L n) (h13 : 13 ≤ n) (h20 : n ≤ 20) : Ev (fun k => slices_choosePivotCmpFunc144_c112.f k (L.map toS) 0 (n : Int) ()) (((n / 4 * 2 : Nat) : Int), 1) := by
  have hl := h.len
  have e0 : wrap64 ((n : Int) - 0) = (n : Int) := w64_id (by omega) (by omega)
  have e1 : wrap64 (0 + wrap64 (wrap64 (Int.tdiv (n : Int) 4) * 1)) = ((n / 4 : Nat) : Int) := by
    have : Int.tdiv (n : Int) 4 = ((n / 4 : Nat) : Int) := by rw [Int.tdiv_eq_ediv_of_nonneg (by omega)]; omega
    rw [this, w64_id (x := ((n / 4 : Nat) : Int)) (by omega) (by omega), w64_id (x := ((n / 4 : Nat) : Int) * 1) (by omega) (by omega), w64_id (by omega) (by omega)]; omega
  have e2 : wrap64 (0 + wrap64 (wrap64 (Int.tdiv (n : Int) 4) * 2)) = ((n / 4 * 2 : Nat) : Int) := by
    have : Int.tdiv (n : Int) 4 = ((n / 4 : Nat) : Int) := by rw [Int.tdiv_eq_ediv_of_nonneg (by omega)]; omega
    rw [this, w64_id (x := ((n / 4 : Nat) : Int)) (by omega) (by omega), w64_id (x := ((n / 4 : Nat) : Int) * 2) (by omega) (by omega), w64_id (by omega) (by omega)]; omega
  have e3 : wrap64 (0 + wrap64 (wrap64 (Int.tdiv (n : Int) 4) * 3)) = ((n / 4 * 3 : Nat) : Int) := by
    have : Int.tdiv (n : Int) 4 = ((n / 4 : Nat) : Int) := by rw [Int.tdiv_eq_ediv_of_nonneg (by omega)]; omega
    rw [this, w64_id (x := ((n / 4 : Nat) : Int)) (by omega) (by omega), w64_id (x := ((n / 4 : Nat) : Int) * 3) (by omega) (by omega), w64_id (by omega) (by omega)]; omega
  have hm := med_ev h.nez (i := n / 4) (j := n / 4 * 2) (m := n / 4 * 3) (by omega) (by omega) (by omega) (h.fal _ _ (by omega) (by omega) (by omega)) (h.fal _ _ (by omega) (by omega) (by omega))
  unfold slices_choosePivotCmpFunc144_c112.f
  rw [e0, e1, e2, e3]
  clear e0 e1 e2 e3
  refine Ev.pos (by omega) (Ev.neg (by omega) (Ev.bnd hm ?_))
  dsimp only
  exact Ev.step (fun k => by rw [slices_choosePivotCmpFunc144_c112.j12]) (Ev.pos rfl (Ev.ret _))
theorem par_ev {L : List E} {n : Nat} (h : Alm L n) (h13 : 13 ≤ n) (h20 : n ≤ 20) : ∃ b : Bool, Ev (fun k => slices_partialInsertionSortCmpFunc146_c112.f k (L.map toS) 0 (n : Int) ()) (L.map toS, b) ∧ (b = true → Fal 0 n L) := by
  have hl := h.len
  have e1 : wrap64 ((0 : Int) + 1) = ((1 : Nat) : Int) := by decide +kernel
  have e0 : wrap64 ((n : Int) - 0) = (n : Int) := w64_id (by omega) (by omega)
  have hlm : (L.map toS).length = n := by rw [List.length_map, hl]
  have step : ∀ i, 1 ≤ i → i < n → ∀ {R : List S34 × Bool}, ld (L.getD i 0) < ld (L.getD (i - 1) 0) → Ev (fun k => slices_partialInsertionSortCmpFunc146_c112.l5 k 0 (n : Int) () ((i + 1 : Nat) : Int) 0 (L.map toS)) R → Ev (fun k => slices_partialInsertionSortCmpFunc146_c112.l5 k 0 (n : Int) () (i : Int) 0 (L.map toS)) R := fun i h1 h2 R hlt hR => by
    have e2 : wrap64 ((i : Int) - 1) = ((i - 1 : Nat) : Int) := by rw [w64_id (by omega) (by omega)]; omega
    have hc := cmp_ev (h.nez.get (p := i) (by omega)) (h.nez.get (p := i - 1) (by omega))
    refine Ev.step (fun k => by rw [slices_partialInsertionSortCmpFunc146_c112.l5]) ?_
    rw [e2]
    refine Ev.pos (by omega) (Ev.ixS (by omega) (Ev.ixS (by omega) ?_))
    rw [rdS, rdS, w64_succ h2 (by omega)]
    exact Ev.bnd hc (Ev.neg (by omega) hR)
  have run : ∀ {R : List S34 × Bool}, Ev (fun k => slices_partialInsertionSortCmpFunc146_c112.l5 k 0 (n : Int) () ((n - 1 : Nat) : Int) 0 (L.map toS)) R → Ev (fun k => slices_partialInsertionSortCmpFunc146_c112.l5 k 0 (n : Int) () ((1 : Nat) : Int) 0 (L.map toS)) R := fun {R} hR => by
    have key : ∀ d i, i + d = n - 1 → 1 ≤ i → Ev (fun k => slices_partialInsertionSortCmpFunc146_c112.l5 k 0 (n : Int) () (i : Int) 0 (L.map toS)) R := by
      intro d
      induction d with
      | zero => intro i hi' _; have : i = n - 1 := by omega
                rw [this]; exact hR
      | succ d ih => intro i hi' h1; exact step i h1 (by omega) (h.fal (i - 1) i (by omega) (by omega) (by omega)) (ih (i + 1) (by omega) (by omega))
    exact key (n - 2) 1 (by omega) (Nat.le_refl _)
  have top : ∀ {R : List S34 × Bool}, Ev (fun k => slices_partialInsertionSortCmpFunc146_c112.l5 k 0 (n : Int) () ((n - 1 : Nat) : Int) 0 (L.map toS)) R → Ev (fun k => slices_partialInsertionSortCmpFunc146_c112.f k (L.map toS) 0 (n : Int) ()) R := fun hR => by
    unfold slices_partialInsertionSortCmpFunc146_c112.f
    rw [e1]
    exact Ev.step (fun k => by rw [slices_partialInsertionSortCmpFunc146_c112.l3]) (Ev.pos (by decide) (run hR))
  by_cases c : ld (L.getD (n - 1) 0) < ld (L.getD (n - 1 - 1) 0)
  · refine ⟨true, top (step (n - 1) (by omega) (by omega) c ?_), fun _ p q h1 h2 h3 => ?_⟩
    · rw [show n - 1 + 1 = n by omega]
      exact Ev.step (fun k => by rw [slices_partialInsertionSortCmpFunc146_c112.l5]) (Ev.neg (Int.lt_irrefl _) (Ev.step (fun k => by rw [slices_partialInsertionSortCmpFunc146_c112.j7]) (Ev.pos rfl (Ev.ret _))))
    · by_cases cq : q = n - 1
      · rw [cq]
        by_cases cp : p = n - 1 - 1
        · rw [cp]; exact c
        · have := h.fal p (n - 1 - 1) (by omega) (by omega) (by omega)
          omega
      · exact h.fal p q h1 h2 (by omega)
  · refine ⟨false, top ?_, fun hh => by cases hh⟩
    have e2 : wrap64 (((n - 1 : Nat) : Int) - 1) = ((n - 1 - 1 : Nat) : Int) := by rw [w64_id (by omega) (by omega)]; omega
    have hc := cmp_ev (h.nez.get (p := n - 1) (by omega)) (h.nez.get (p := n - 1 - 1) (by omega))
    have hd := h.dis (n - 1) (n - 1 - 1) (by omega) (by omega) (by omega)
    refine Ev.step (fun k => by rw [slices_partialInsertionSortCmpFunc146_c112.l5]) ?_
    rw [e2]
    refine Ev.pos (by omega) (Ev.ixS (by omega) (Ev.ixS (by omega) ?_))
    rw [rdS, rdS]
    refine Ev.bnd hc (Ev.pos (by omega) (Ev.step (fun k => by rw [slices_partialInsertionSortCmpFunc146_c112.j7]) ?_))
    rw [e0]
    exact Ev.neg (by omega) (Ev.pos (by omega) (Ev.ret _))
/-- Scans of a partition. -/
theorem scan_up {L : List E} (hn : Nez L) (hN : L.length ≤ 1000) {f : Nat → Int → Unit → Int → Int → List S34 → Option (List S34 × Int × Bool)} {R : List S34 × Int × Bool} (j hi' : Nat) (hh : hi' < L.length)
    (up : ∀ i : Nat, i ≤ hi' → ld (L.getD 0 0) < ld (L.getD i 0) → Ev (fun k => f k 0 () ((i + 1 : Nat) : Int) (hi' : Int) (L.map toS)) R → Ev (fun k => f k 0 () (i : Int) (hi' : Int) (L.map toS)) R)
    (hR : Ev (fun k => f k 0 () (j : Int) (hi' : Int) (L.map toS)) R) (hj : j ≤ hi' + 1) : ∀ d i, i + d = j → (∀ p, i ≤ p → p < j → ld (L.getD 0 0) < ld (L.getD p 0)) → Ev (fun k => f k 0 () (i : Int) (hi' : Int) (L.map toS)) R := by
  intro d
  induction d with
  | zero => intro i hi2 _; have : i = j := by omega
            rw [this]; exact hR
  | succ d ih => intro i hi2 hp; exact up i (by omega) (hp i (Nat.le_refl _) (by omega)) (ih (i + 1) (by omega) fun p h1 h2 => hp p (by omega) h2)
theorem ptn_out {L : List E} {n : Nat} (h : Alm L n) (h13 : 13 ≤ n) (h20 : n ≤ 20) : ∃ (M : List E) (m : Nat) (b : Bool), Ev (fun k => slices_partitionCmpFunc148_c112.f k (L.map toS) 0 (n : Int) ((n / 4 * 2 : Nat) : Int) ()) (M.map toS, (m : Int), b) ∧ Mv 0 n L M ∧ (m = n / 4 * 2 ∨ m = n / 4 * 2 + 1) ∧
    (∀ p, p < m → ld (M.getD m 0) < ld (M.getD p 0)) ∧ (∀ p, m < p → p < n → ld (M.getD p 0) < ld (M.getD m 0)) := by
  have hl := h.len
  obtain ⟨j, hj⟩ : ∃ j, j = n / 4 * 2 := ⟨_, rfl⟩
  rw [← hj]
  have hj1 : 6 ≤ j ∧ j ≤ 10 ∧ j + 3 ≤ n - 1 := by omega
  have m1 : Mv 0 n L (swp L 0 j) := Mv.swp (by omega) ⟨by omega, by omega⟩ ⟨by omega, by omega⟩
  have g1 := fun p => swp_get L (i := 0) (j := j) (by omega) (by omega) p
  obtain ⟨L1, hL1⟩ : ∃ L1, L1 = swp L 0 j := ⟨_, rfl⟩
  rw [← hL1] at m1 g1
  have l1 : L1.length = n := by rw [m1.len, hl]
  have n1 := m1.nez h.nez
  have lm1 : (L1.map toS).length = n := by rw [List.length_map, l1]
  have p0 : L1.getD 0 0 = L.getD j 0 := by rw [g1, if_neg (by omega), if_pos rfl]
  have pj : L1.getD j 0 = L.getD 0 0 := by rw [g1, if_pos rfl]
  have pe : ∀ p, p ≠ 0 → p ≠ j → L1.getD p 0 = L.getD p 0 := fun p h1 h2 => by rw [g1, if_neg h2, if_neg h1]
  have e1 : wrap64 ((0 : Int) + 1) = ((1 : Nat) : Int) := by decide +kernel
  have e2 : wrap64 ((n : Int) - 1) = ((n - 1 : Nat) : Int) := by rw [w64_id (by omega) (by omega)]; omega
  have dec : ∀ x : Nat, 1 ≤ x → x ≤ 100 → wrap64 ((x : Int) - 1) = ((x - 1 : Nat) : Int) := fun x h1 h2 => by rw [w64_id (by omega) (by omega)]; omega
  have start : ∀ {R : List S34 × Int × Bool}, Ev (fun k => slices_partitionCmpFunc148_c112.l3 k 0 () ((1 : Nat) : Int) ((n - 1 : Nat) : Int) (L1.map toS)) R → Ev (fun k => slices_partitionCmpFunc148_c112.f k (L.map toS) 0 (n : Int) (j : Int) ()) R := fun {R} hR => by
    have q0 : 0 < (L.map toS).length := by rw [List.length_map]; omega
    have q1 : j < (L.map toS).length := by rw [List.length_map]; omega
    have q2 : j < ((L.map toS).set (Int.toNat (0 : Int)) (toS (L.getD j 0))).length := by rw [List.length_set]; exact q1
    have r0 := rdS L 0
    have r0 : rd34 (L.map toS) (0 : Int) = toS (L.getD 0 0) := r0
    unfold slices_partitionCmpFunc148_c112.f
    refine Ev.ixS q1 (Ev.pos (by decide) (Ev.pos (by omega) (Ev.pos (by decide) (Ev.pos (by omega) ?_))))
    rw [rdS, r0, e1, e2]
    refine Ev.ixS q2 ?_
    have z : Int.toNat (0 : Int) = 0 := rfl
    rw [z, Int.toNat_natCast, map_set, map_set]
    have : (L.set 0 (L.getD j 0)).set j (L.getD 0 0) = L1 := hL1.symm
    rw [this]
    exact hR
  -- up to the pivot's right
  have r10 : rd34 (L1.map toS) (0 : Int) = toS (L1.getD 0 0) := rdS L1 0
  have up : ∀ {R : List S34 × Int × Bool}, Ev (fun k => slices_partitionCmpFunc148_c112.l5 k 0 () ((j + 1 : Nat) : Int) ((n - 1 : Nat) : Int) (L1.map toS)) R → Ev (fun k => slices_partitionCmpFunc148_c112.l3 k 0 () ((1 : Nat) : Int) ((n - 1 : Nat) : Int) (L1.map toS)) R := fun {R} hR => by
    refine scan_up n1 (by omega) (f := slices_partitionCmpFunc148_c112.l3) (j + 1) (n - 1) (by omega) (fun i hi' hc hi2 => ?_) ?_ (by omega) j 1 (by omega) fun p h1 h2 => ?_
    · refine Ev.step (fun k => by rw [slices_partitionCmpFunc148_c112.l3]) (Ev.pos (by omega) (Ev.ixS (by omega) (Ev.pos (by decide) (Ev.pos (by omega) ?_))))
      rw [rdS, r10, w64_succ (show i < n by omega) (by omega)]
      exact Ev.bnd (cmp_ev (n1.get (p := i) (by omega)) (n1.get (p := 0) (by omega))) (Ev.pos (by omega) hi2)
    · refine Ev.step (fun k => by rw [slices_partitionCmpFunc148_c112.l3]) (Ev.pos (by omega) (Ev.ixS (by omega) (Ev.pos (by decide) (Ev.pos (by omega) ?_))))
      rw [rdS, r10]
      refine Ev.bnd (cmp_ev (n1.get (p := j + 1) (by omega)) (n1.get (p := 0) (by omega))) (Ev.neg ?_ hR)
      rw [p0, pe (j + 1) (by omega) (by omega)]
      have := h.fal j (j + 1) (by omega) (by omega) (by omega)
      omega
    · rw [p0]
      by_cases c : p = j
      · rw [c, pj]; exact h.fal 0 j (by omega) (by omega) (by omega)
      · rw [pe p (by omega) c]; exact h.fal p j (by omega) (by omega) (by omega)
  have hdis := h.dis (n - 1) j (by omega) (by omega) (by omega)
  have pn : L1.getD (n - 1) 0 = L.getD (n - 1) 0 := pe _ (by omega) (by omega)
  by_cases cy : ld (L.getD (n - 1) 0) < ld (L.getD j 0)
  · -- the new one is to the right
    have back : ∀ d (i : Nat), i = j + d → i ≤ n - 1 → ∀ {R : List S34 × Int × Bool}, Ev (fun k => slices_partitionCmpFunc148_c112.j7 k 0 () ((j + 1 : Nat) : Int) (j : Int) (L1.map toS)) R → Ev (fun k => slices_partitionCmpFunc148_c112.l5 k 0 () ((j + 1 : Nat) : Int) (i : Int) (L1.map toS)) R := by
      intro d
      induction d with
      | zero =>
        intro i hi' hi2 R hR
        rw [show i = j by omega]
        exact Ev.step (fun k => by rw [slices_partitionCmpFunc148_c112.l5]) (Ev.neg (by omega) hR)
      | succ d ih =>
        intro i hi' hi2 R hR
        refine Ev.step (fun k => by rw [slices_partitionCmpFunc148_c112.l5]) (Ev.pos (by omega) (Ev.ixS (by omega) (Ev.pos (by decide) (Ev.pos (by omega) ?_))))
        rw [rdS, r10, dec i (by omega) (by omega)]
        refine Ev.bnd (cmp_ev (n1.get (p := i) (by omega)) (n1.get (p := 0) (by omega))) (Ev.neg ?_ (ih (i - 1) (by omega) (by omega) hR))
        rw [p0, pe i (by omega) (by omega)]
        by_cases c : i = n - 1
        · rw [c]; omega
        · have := h.fal j i (by omega) (by omega) (by omega)
          omega
    have m2 : Mv 0 n L (swp L1 j 0) := m1.trans (Mv.swp (by omega) ⟨by omega, by omega⟩ ⟨by omega, by omega⟩)
    have g2 := fun p => swp_get L1 (i := j) (j := 0) (by omega) (by omega) p
    have all : ∀ p, (swp L1 j 0).getD p 0 = L.getD p 0 := fun p => by
      rw [g2]
      by_cases c : p = 0
      · rw [if_pos c, pj, c]
      · rw [if_neg c]
        by_cases d : p = j
        · rw [if_pos d, p0, d]
        · rw [if_neg d, pe p c d]
    refine ⟨swp L1 j 0, j, true, start (up (back (n - 1 - j) (n - 1) (by omega) (Nat.le_refl _) ?_)), m2, .inl rfl, fun p hp => ?_, fun p h1 h2 => ?_⟩
    · have q1 : j < (L1.map toS).length := by omega
      have q2 : 0 < ((L1.map toS).set (Int.toNat (j : Int)) (toS (L1.getD 0 0))).length := by rw [List.length_set]; omega
      refine Ev.step (fun k => by rw [slices_partitionCmpFunc148_c112.j7]) (Ev.pos (by omega) (Ev.pos (by decide) (Ev.pos (by omega) (Ev.ixS q1 (Ev.ixS q1 (Ev.pos (by decide) ?_))))))
      rw [rdS, r10]
      refine Ev.pos (by omega) (Ev.ret' ?_)
      have z : Int.toNat (0 : Int) = 0 := rfl
      rw [z, Int.toNat_natCast, map_set, map_set]
      rfl
    · rw [all, all]; exact h.fal p j (by omega) hp (by omega)
    · rw [all, all]
      by_cases c : p = n - 1
      · rw [c]; exact cy
      · exact h.fal j p (by omega) h1 (by omega)
  · -- the new one is to the left
    have cy : ld (L.getD j 0) < ld (L.getD (n - 1) 0) := by omega
    have m2 : Mv 0 n L (swp L1 (j + 1) (n - 1)) := m1.trans (Mv.swp (by omega) ⟨by omega, by omega⟩ ⟨by omega, by omega⟩)
    have g2 := fun p => swp_get L1 (i := j + 1) (j := n - 1) (by omega) (by omega) p
    obtain ⟨L2, hL2⟩ : ∃ L2, L2 = swp L1 (j + 1) (n - 1) := ⟨_, rfl⟩
    rw [← hL2] at m2 g2
    have l2 : L2.length = n := by rw [m2.len, hl]
    have n2 := m2.nez h.nez
    have lm2 : (L2.map toS).length = n := by rw [List.length_map, l2]
    have s0 : L2.getD 0 0 = L.getD j 0 := by rw [g2, if_neg (by omega), if_neg (by omega), p0]
    have sj1 : L2.getD (j + 1) 0 = L.getD (n - 1) 0 := by rw [g2, if_neg (by omega), if_pos rfl, pn]
    have sn : L2.getD (n - 1) 0 = L.getD (j + 1) 0 := by rw [g2, if_pos rfl, pe _ (by omega) (by omega)]
    have sj : L2.getD j 0 = L.getD 0 0 := by rw [g2, if_neg (by omega), if_neg (by omega), pj]
    have se : ∀ p, p ≠ 0 → p ≠ j → p ≠ j + 1 → p ≠ n - 1 → L2.getD p 0 = L.getD p 0 := fun p h1 h2 h3 h4 => by rw [g2, if_neg h4, if_neg h3, pe p h1 h2]
    have r20 : rd34 (L2.map toS) (0 : Int) = toS (L2.getD 0 0) := rdS L2 0
    have back : ∀ d (i : Nat), i = j + 1 + d → i ≤ n - 2 → ∀ {R : List S34 × Int × Bool}, Ev (fun k => slices_partitionCmpFunc148_c112.j17 k 0 () ((j + 2 : Nat) : Int) ((j + 1 : Nat) : Int) (L2.map toS)) R → Ev (fun k => slices_partitionCmpFunc148_c112.l15 k 0 () ((j + 2 : Nat) : Int) (i : Int) (L2.map toS)) R := by
      intro d
      induction d with
      | zero =>
        intro i hi' hi2 R hR
        rw [show i = j + 1 by omega]
        exact Ev.step (fun k => by rw [slices_partitionCmpFunc148_c112.l15]) (Ev.neg (by omega) hR)
      | succ d ih =>
        intro i hi' hi2 R hR
        refine Ev.step (fun k => by rw [slices_partitionCmpFunc148_c112.l15]) (Ev.pos (by omega) (Ev.ixS (by omega) (Ev.pos (by decide) (Ev.pos (by omega) ?_))))
        rw [rdS, r20, dec i (by omega) (by omega)]
        refine Ev.bnd (cmp_ev (n2.get (p := i) (by omega)) (n2.get (p := 0) (by omega))) (Ev.neg ?_ (ih (i - 1) (by omega) (by omega) hR))
        rw [s0, se i (by omega) (by omega) (by omega) (by omega)]
        have := h.fal j i (by omega) (by omega) (by omega)
        omega
    have m3 : Mv 0 n L (swp L2 (j + 1) 0) := m2.trans (Mv.swp (by omega) ⟨by omega, by omega⟩ ⟨by omega, by omega⟩)
    have g3 := fun p => swp_get L2 (i := j + 1) (j := 0) (by omega) (by omega) p
    have t0 : (swp L2 (j + 1) 0).getD 0 0 = L.getD (n - 1) 0 := by rw [g3, if_pos rfl, sj1]
    have tj : (swp L2 (j + 1) 0).getD (j + 1) 0 = L.getD j 0 := by rw [g3, if_neg (by omega), if_pos rfl, s0]
    have te : ∀ p, p ≠ 0 → p ≠ j + 1 → (swp L2 (j + 1) 0).getD p 0 = L2.getD p 0 := fun p h1 h2 => by rw [g3, if_neg h1, if_neg h2]
    refine ⟨swp L2 (j + 1) 0, j + 1, false, start (up ?_), m3, .inr rfl, fun p hp => ?_, fun p h1 h2 => ?_⟩
    · -- the exchange, and on
      have q1 : n - 1 < (L1.map toS).length := by omega
      have q2 : j + 1 < (L1.map toS).length := by omega
      have q3 : n - 1 < ((L1.map toS).set (Int.toNat ((j + 1 : Nat) : Int)) (toS (L1.getD (n - 1) 0))).length := by rw [List.length_set]; exact q1
      refine Ev.step (fun k => by rw [slices_partitionCmpFunc148_c112.l5]) (Ev.pos (by omega) (Ev.ixS (by omega) (Ev.pos (by decide) (Ev.pos (by omega) ?_))))
      rw [rdS, r10]
      refine Ev.bnd (cmp_ev (n1.get (p := n - 1) (by omega)) (n1.get (p := 0) (by omega))) (Ev.pos (by rw [p0, pn]; omega) ?_)
      refine Ev.step (fun k => by rw [slices_partitionCmpFunc148_c112.j7]) (Ev.neg (by omega) (Ev.ixS q1 (Ev.ixS q2 (Ev.ixS q2 ?_))))
      rw [rdS, rdS, w64_succ (show j + 1 < n by omega) (by omega), dec (n - 1) (by omega) (by omega)]
      refine Ev.ixS q3 ?_
      rw [Int.toNat_natCast, Int.toNat_natCast, map_set, map_set]
      have : (L1.set (j + 1) (L1.getD (n - 1) 0)).set (n - 1) (L1.getD (j + 1) 0) = L2 := hL2.symm
      rw [this, show n - 1 - 1 = n - 2 by omega]
      refine Ev.step (fun k => by rw [slices_partitionCmpFunc148_c112.l1013]) (Ev.step (fun k => by rw [slices_partitionCmpFunc148_c112.l13]) (Ev.pos (by omega) (Ev.ixS (by omega) (Ev.pos (by decide) (Ev.pos (by omega) ?_)))))
      rw [rdS, r20]
      refine Ev.bnd (cmp_ev (n2.get (p := j + 1 + 1) (by omega)) (n2.get (p := 0) (by omega))) (Ev.neg ?_ ?_)
      · rw [s0, se (j + 1 + 1) (by omega) (by omega) (by omega) (by omega)]
        have := h.fal j (j + 1 + 1) (by omega) (by omega) (by omega)
        omega
      refine back (n - 2 - (j + 1)) (n - 2) (by omega) (Nat.le_refl _) ?_
      have v1 : j + 1 < (L2.map toS).length := by omega
      have v2 : 0 < ((L2.map toS).set (Int.toNat ((j + 1 : Nat) : Int)) (toS (L2.getD 0 0))).length := by rw [List.length_set]; omega
      refine Ev.step (fun k => by rw [slices_partitionCmpFunc148_c112.j17]) (Ev.pos (by omega) (Ev.pos (by decide) (Ev.pos (by omega) (Ev.ixS v1 (Ev.ixS v1 (Ev.pos (by decide) ?_))))))
      rw [rdS, r20]
      refine Ev.pos (by omega) (Ev.ret' ?_)
      have z : Int.toNat (0 : Int) = 0 := rfl
      rw [z, Int.toNat_natCast, map_set, map_set]
      rfl
    · rw [tj]
      by_cases c : p = 0
      · rw [c, t0]; exact cy
      · rw [te p c (by omega)]
        by_cases d : p = j
        · rw [d, sj]; exact h.fal 0 j (by omega) (by omega) (by omega)
        · rw [se p c d (by omega) (by omega)]; exact h.fal p j (by omega) (by omega) (by omega)
    · rw [tj, te p (by omega) (by omega)]
      by_cases c : p = n - 1
      · rw [c, sn]; exact h.fal j (j + 1) (by omega) (by omega) (by omega)
      · rw [se p (by omega) (by omega) (by omega) c]; exact h.fal j p (by omega) (by omega) (by omega)
end Go.Proofs.Ytmoekjdlpfjhiaa.Sp
namespace Go.Proofs.Ytmoekjdlpfjhiaa.Sp
open Go.Proofs.Ytmoekjdlpfjhiaa.V.B Go.RowKit Go.Proofs.Ytmoekjdlpfjhiaa.B Go.Proofs.Ytmoekjdlpfjhiaa.V.B.Ar Go.Proofs.Ytmoekjdlpfjhiaa.V.B.Tw
set_option linter.unusedVariables false
set_option linter.unusedSimpArgs false
theorem pdq_small (a b : Nat) {L : List E} (hl : L.length ≤ 100) (hab : a ≤ b) (hb : b ≤ L.length) (h12 : b - a ≤ 12) (hn : Nez L) (hD : Dis L) (m : Int) (u v : Bool) :
    ∃ M, Mv a b L M ∧ Fal a b M ∧ Ev (fun k => slices_pdqsortCmpFunc133_c112.l2 k (a : Int) (b : Int) m () u v (L.map toS)) (M.map toS) := by
  obtain ⟨M, m1, m2, m3⟩ := ins_ev a b (L := L) (by omega) (by omega) hb hn hD
  have e : wrap64 ((b : Int) - (a : Int)) = ((b - a : Nat) : Int) := by rw [w64_id (by omega) (by omega)]; omega
  refine ⟨M, m1, m2, Ev.step (fun k => by rw [slices_pdqsortCmpFunc133_c112.l2]) ?_⟩
  rw [e]
  exact Ev.pos (by omega) (Ev.bnd m3 (Ev.ret _))
theorem Ev.stepf {α : Type} {g f : Nat → Option α} {r : α} (h : ∀ k, g (k + 1) = f k) (k : Ev f r) : Ev g r := Ev.step h k
/-- Two parts and what is between. -/
theorem join_fal {n m : Nat} {M S T : List E} (hm : m < n) (hM : M.length = n) (a1 : ∀ p, p < m → ld (M.getD m 0) < ld (M.getD p 0)) (a2 : ∀ p, m < p → p < n → ld (M.getD p 0) < ld (M.getD m 0))
    (s1 : Mv 0 m M S) (f1 : Fal 0 m S) (s2 : Mv (m + 1) n S T) (f2 : Fal (m + 1) n T) : Fal 0 n T := by
  have tm : T.getD m 0 = M.getD m 0 := by rw [s2.out m (by omega), s1.out m (by omega)]
  have lo : ∀ p, p < m → ld (M.getD m 0) < ld (T.getD p 0) := fun p hp => by
    rw [s2.out p (by omega)]
    exact s1.inn (fun x => ld (M.getD m 0) < ld x) (fun q _ h => a1 q h) p (by omega) hp
  have hi2 : ∀ p, m < p → p < n → ld (T.getD p 0) < ld (M.getD m 0) := fun p h1 h2 =>
    s2.inn (fun x => ld x < ld (M.getD m 0)) (fun q h3 h4 => by rw [s1.out q (by omega)]; exact a2 q (by omega) h4) p (by omega) h2
  intro p q h1 h2 h3
  by_cases c : q < m
  · rw [s2.out p (by omega), s2.out q (by omega)]; exact f1 p q h1 h2 c
  by_cases d : q = m
  · rw [d, tm]; exact lo p (by omega)
  by_cases e : p < m
  · have := lo p e
    have := hi2 q (by omega) h3
    omega
  by_cases g : p = m
  · rw [g, tm]; exact hi2 q (by omega) h3
  · exact f2 p q (by omega) h2 h3
theorem join_fal2 {n m : Nat} {M S T : List E} (hm : m < n) (hM : M.length = n) (a1 : ∀ p, p < m → ld (M.getD m 0) < ld (M.getD p 0)) (a2 : ∀ p, m < p → p < n → ld (M.getD p 0) < ld (M.getD m 0))
    (s1 : Mv (m + 1) n M S) (f1 : Fal (m + 1) n S) (s2 : Mv 0 m S T) (f2 : Fal 0 m T) : Fal 0 n T := by
  have tm : T.getD m 0 = M.getD m 0 := by rw [s2.out m (by omega), s1.out m (by omega)]
  have lo : ∀ p, p < m → ld (M.getD m 0) < ld (T.getD p 0) := fun p hp =>
    s2.inn (fun x => ld (M.getD m 0) < ld x) (fun q _ h => by rw [s1.out q (by omega)]; exact a1 q h) p (by omega) hp
  have hi2 : ∀ p, m < p → p < n → ld (T.getD p 0) < ld (M.getD m 0) := fun p h1 h2 => by
    rw [s2.out p (by omega)]
    exact s1.inn (fun x => ld x < ld (M.getD m 0)) (fun q h3 h4 => a2 q (by omega) h4) p (by omega) h2
  intro p q h1 h2 h3
  by_cases c : q < m
  · exact f2 p q h1 h2 c
  by_cases d : q = m
  · rw [d, tm]; exact lo p (by omega)
  by_cases e : p < m
  · have := lo p e
    have := hi2 q (by omega) h3
    omega
  by_cases g : p = m
  · rw [g, tm]; exact hi2 q (by omega) h3
  · rw [s2.out p (by omega), s2.out q (by omega)]; exact f1 p q (by omega) h2 h3
theorem pdq_ev {L : List E} {n : Nat} (h : Alm L n) (h20 : n ≤ 20) {m : Int} (hm : m ≠ 0) : ∃ M, Mv 0 n L M ∧ Fal 0 n M ∧ Ev (fun k => slices_pdqsortCmpFunc133_c112.f k (L.map toS) 0 (n : Int) m ()) (M.map toS) := by
  have hl := h.len
  by_cases c : n ≤ 12
  · obtain ⟨M, m1, m2, m3⟩ := pdq_small 0 n (L := L) (by omega) (by omega) (by omega) (by omega) h.nez h.dis m true true
    have m3 : Ev (fun k => slices_pdqsortCmpFunc133_c112.l2 k 0 (n : Int) m () true true (L.map toS)) (M.map toS) := m3
    exact ⟨M, m1, m2, Ev.step (fun k => by rw [slices_pdqsortCmpFunc133_c112.f]) m3⟩
  have e0 : wrap64 ((n : Int) - 0) = (n : Int) := w64_id (by omega) (by omega)
  obtain ⟨b, hp, hb⟩ := par_ev h (by omega) h20
  have hcho := cho_ev h (by omega) h20
  cases b with
  | true =>
    refine ⟨L, Mv.refl _ _ _, hb rfl, Ev.step (fun k => by rw [slices_pdqsortCmpFunc133_c112.f]) (Ev.step (fun k => by rw [slices_pdqsortCmpFunc133_c112.l2]) ?_)⟩
    rw [e0]
    exact Ev.neg (by omega) (Ev.neg hm (Ev.neg (by decide) (Ev.bnd hcho (Ev.neg (show ¬ ((1 : Int) = 2) by decide) (Ev.pos rfl (Ev.pos rfl (Ev.pos rfl (Ev.bnd hp (Ev.pos rfl (Ev.ret _))))))))))
  | false =>
    obtain ⟨M, mid, w, hpt, mv, hmid, a1, a2⟩ := ptn_out h (by omega) h20
    have lM : M.length = n := by rw [mv.len, hl]
    have hmn : mid < n ∧ 6 ≤ mid ∧ mid ≤ 11 := by omega
    have d0 : wrap64 ((mid : Int) - 0) = (mid : Int) := w64_id (by omega) (by omega)
    have d1 : wrap64 ((n : Int) - (mid : Int)) = ((n - mid : Nat) : Int) := by rw [w64_id (by omega) (by omega)]; omega
    have d2 : wrap64 ((mid : Int) + 1) = ((mid + 1 : Nat) : Int) := w64_succ (show mid < n by omega) (by omega)
    have start : ∀ {R : List S34}, Ev (fun k => if wrap64 ((mid : Int) - 0) < wrap64 ((n : Int) - (mid : Int)) then (slices_pdqsortCmpFunc133_c112.f k (M.map toS) 0 (mid : Int) m ()).bind fun r6 => slices_pdqsortCmpFunc133_c112.l2 k (wrap64 ((mid : Int) + 1)) (n : Int) m () (decide (wrap64 ((mid : Int) - 0) ≥ wrap64 (Int.tdiv (n : Int) 8))) w r6 else (slices_pdqsortCmpFunc133_c112.f k (M.map toS) (wrap64 ((mid : Int) + 1)) (n : Int) m ()).bind fun r7 => slices_pdqsortCmpFunc133_c112.l2 k 0 (mid : Int) m () (decide (wrap64 ((n : Int) - (mid : Int)) ≥ wrap64 (Int.tdiv (n : Int) 8))) w r7) R → Ev (fun k => slices_pdqsortCmpFunc133_c112.f k (L.map toS) 0 (n : Int) m ()) R := fun {R} hR => by
      refine Ev.step (fun k => by rw [slices_pdqsortCmpFunc133_c112.f]) (Ev.step (fun k => by rw [slices_pdqsortCmpFunc133_c112.l2]) ?_)
      rw [e0]
      refine Ev.neg (by omega) (Ev.neg hm (Ev.neg (by decide) (Ev.bnd hcho (Ev.neg (show ¬ ((1 : Int) = 2) by decide) (Ev.pos rfl (Ev.pos rfl (Ev.pos rfl (Ev.bnd hp (Ev.neg (show ¬ (false = true) by decide) ?_)))))))))
      refine Ev.step (fun k => by rw [slices_pdqsortCmpFunc133_c112.j17]) (Ev.neg (by decide) (Ev.step (fun k => by rw [slices_pdqsortCmpFunc133_c112.j20]) ?_))
      exact Ev.bnd hpt hR
    by_cases g : mid < n - mid
    · obtain ⟨S, s1, s2, s3⟩ := pdq_small 0 mid (L := M) (by omega) (by omega) (by omega) (by omega) (mv.nez h.nez) (mv.dst h.dis) m true true
      have s3 : Ev (fun k => slices_pdqsortCmpFunc133_c112.l2 k 0 (mid : Int) m () true true (M.map toS)) (S.map toS) := s3
      have lS : S.length = n := by rw [s1.len, lM]
      obtain ⟨T, t1, t2, t3⟩ := pdq_small (mid + 1) n (L := S) (by omega) (by omega) (by omega) (by omega) (s1.nez (mv.nez h.nez)) (s1.dst (mv.dst h.dis)) m (decide ((mid : Int) ≥ wrap64 (Int.tdiv (n : Int) 8))) w
      refine ⟨T, (mv.trans (s1.more (Nat.le_refl _) (by omega))).trans (t1.more (by omega) (Nat.le_refl _)), join_fal hmn.1 lM a1 a2 s1 s2 t1 t2, start ?_⟩
      rw [d0, d1, d2]
      exact Ev.pos (by omega) (Ev.bnd (Ev.step (fun k => by rw [slices_pdqsortCmpFunc133_c112.f]) s3) t3)
    · obtain ⟨S, s1, s2, s3⟩ := pdq_small (mid + 1) n (L := M) (by omega) (by omega) (by omega) (by omega) (mv.nez h.nez) (mv.dst h.dis) m true true
      have lS : S.length = n := by rw [s1.len, lM]
      obtain ⟨T, t1, t2, t3⟩ := pdq_small 0 mid (L := S) (by omega) (by omega) (by omega) (by omega) (s1.nez (mv.nez h.nez)) (s1.dst (mv.dst h.dis)) m (decide (((n - mid : Nat) : Int) ≥ wrap64 (Int.tdiv (n : Int) 8))) w
      have t3 : Ev (fun k => slices_pdqsortCmpFunc133_c112.l2 k 0 (mid : Int) m () (decide (((n - mid : Nat) : Int) ≥ wrap64 (Int.tdiv (n : Int) 8))) w (S.map toS)) (T.map toS) := t3
      refine ⟨T, (mv.trans (s1.more (by omega) (Nat.le_refl _))).trans (t1.more (Nat.le_refl _) (by omega)), join_fal2 hmn.1 lM a1 a2 s1 s2 t1 t2, start ?_⟩
      rw [d0, d1, d2]
      exact Ev.neg (by omega) (Ev.bnd (Ev.step (fun k => by rw [slices_pdqsortCmpFunc133_c112.f]) s3) t3)
theorem sort_big {R : List E} (hf : R.Pairwise fun x y => ld y < ld x) (hne : ∀ b ∈ R, b ≠ 0) {y : E} (hy : y ≠ 0) (hd : ∀ b ∈ R, ld b ≠ ld y) (hn : R.length ≤ 19) : Ev (fun k => slices_SortFunc111_c112.f k ((R ++ [y]).map toS) ()) ((insT y R).map toS) := by
  have hll : (R ++ [y]).length = R.length + 1 := by rw [List.length_append, List.length_singleton]
  have getA : ∀ i, i < R.length → (R ++ [y]).getD i 0 = R.getD i 0 := fun i hi' => by
    rw [List.getD_eq_getElem?_getD, List.getD_eq_getElem?_getD, List.getElem?_append_left hi']
  have getY : (R ++ [y]).getD R.length 0 = y := by
    rw [List.getD_eq_getElem?_getD, List.getElem?_append_right (Nat.le_refl _), Nat.sub_self]; rfl
  have sorted : ∀ i j, i < j → j < R.length → ld (R.getD j 0) < ld (R.getD i 0) := fun i j hij hj => by
    have := List.pairwise_iff_getElem.1 hf i j (by omega) hj hij
    rw [List.getD_eq_getElem?_getD, List.getD_eq_getElem?_getD, List.getElem?_eq_getElem hj, List.getElem?_eq_getElem (show i < R.length by omega)]
    exact this
  have A : Alm (R ++ [y]) (R.length + 1) := by
    refine ⟨hll, fun x hx => ?_, fun p q hpq hp hq => ?_, fun p q h1 h2 h3 => ?_⟩
    · rcases List.mem_append.1 hx with h | h
      · exact hne x h
      · rw [List.mem_singleton.1 h]; exact hy
    · rw [hll] at hp hq
      have key : ∀ p q, p < q → q < R.length + 1 → ld ((R ++ [y]).getD p 0) ≠ ld ((R ++ [y]).getD q 0) := fun p q h1 h2 => by
        rw [getA p (by omega)]
        by_cases c : q = R.length
        · rw [c, getY]; exact hd _ (mem_get.2 ⟨p, by omega, rfl⟩)
        · rw [getA q (by omega)]
          have := sorted p q h1 (by omega)
          omega
      rcases Nat.lt_or_gt_of_ne hpq with g | g
      · exact key p q g hq
      · exact fun e => key q p g hp e.symm
    · rw [getA p (by omega), getA q (by omega)]
      exact sorted p q h2 (by omega)
  have hblen : ((blen (R.length + 1) : Nat) : Int) ≠ 0 := by
    unfold blen
    rw [if_neg (by omega)]
    omega
  obtain ⟨M, m1, m2, m3⟩ := pdq_ev A (by omega) hblen
  have lM : M.length = R.length + 1 := by rw [m1.len, hll]
  have hM : M = insT y R := by
    refine fall_ext (List.pairwise_iff_getElem.2 fun i j hi' hj hij => ?_) (insT_fall y hf hd) fun x => ?_
    · have := m2 i j (by omega) hij (by omega)
      rw [List.getD_eq_getElem?_getD, List.getD_eq_getElem?_getD, List.getElem?_eq_getElem hj, List.getElem?_eq_getElem hi'] at this
      exact this
    · rw [m1.mem, insT_mem, List.mem_append, List.mem_singleton]
      exact Or.comm
  rw [hM] at m3
  have hr : Ev (fun k => math_bits_Len.f k (IntKind.u64.wrap ((R.length + 1 : Nat) : Int))) ((blen (R.length + 1) : Nat) : Int) := by
    rw [u64_id (by omega) (by omega)]
    unfold math_bits_Len.f
    exact Ev.bnd (Len64_ev (R.length + 1) (by omega)) (Ev.ret _)
  unfold slices_SortFunc111_c112.f
  rw [List.length_map, hll]
  exact Ev.bnd hr (Ev.bnd m3 (Ev.ret _))
theorem put_big {R : List E} (hR : Red R) (hn : R.length ≤ 19) (x : E) : Ev (fun k => span_put.f k (R.map toS) (toS x)) ((Tw.putT R x).map toS) := by
  have hl := less_bit hR x
  unfold span_put.f Tw.putT
  refine Ev.bnd (less_ev R hR.ne (by omega) x) ?_
  by_cases c : lessT R x = 0
  · rw [if_pos c]
    exact Ev.pos ((eq_zero_iff _).1 c) (Ev.ret _)
  rw [if_neg c]
  refine Ev.neg (fun g => c ((eq_zero_iff _).2 g)) ?_
  generalize lessT R x = y at c hl
  rw [List.length_map]
  have hred := hR
  refine Ev.down (g := fun i k => span_put.l6 k (R.map toS) (R.length : Int) (i : Int) (hi y) (lo y) (((R.take i).map (clrT y)).map toS)) (n := R.length) ?_ fun i hi' hih => ?_
  · rw [List.take_of_length_le (Nat.le_refl _)]
    refine Ev.step (fun k => by rw [span_put.l6]) (Ev.neg (Int.lt_irrefl _) (Ev.pos (by rw [List.length_map, List.length_map, List.length_singleton]; omega) ?_))
    have hlead : ∀ b ∈ R, ld (clrT y b) = ld b ∧ clrT y b ≠ 0 := fun b hb => clr_ld (hR.ne b hb) (hl b hb)
    have hf : (R.map (clrT y)).Pairwise fun x y => ld y < ld x := by
      rw [List.pairwise_map]
      refine hR.fall.imp_of_mem fun {a b} ha hb h => ?_
      rw [(hlead a ha).1, (hlead b hb).1]; exact h
    have hne : ∀ b ∈ R.map (clrT y), b ≠ 0 := fun b hb => by
      obtain ⟨a, ha, rfl⟩ := List.mem_map.1 hb
      exact (hlead a ha).2
    have hdd : ∀ b ∈ R.map (clrT y), ld b ≠ ld y := fun b hb e => by
      obtain ⟨a, ha, rfl⟩ := List.mem_map.1 hb
      rw [(hlead a ha).1] at e
      have h1 := hl a ha
      rw [e, ld_bit c] at h1
      cases h1
    have := sort_big hf hne c hdd (by rw [List.length_map]; exact hn)
    rw [List.map_append] at this
    exact Ev.bnd this (Ev.ret _)
  · have hmem : R.getD i 0 ∈ R := mem_get.2 ⟨i, hi', rfl⟩
    have ht : R.take (i + 1) = R.take i ++ [R.getD i 0] := by
      rw [List.take_succ_eq_append_getElem hi', List.getD_eq_getElem?_getD, List.getElem?_eq_getElem hi']; rfl
    have f0 : (i : Int) < (R.length : Int) := by omega
    have f3 : (((R.take i).map (clrT y)).map toS).length + 1 ≤ 140737488355328 / 16 := by rw [List.length_map, List.length_map, List.length_take]; omega
    rw [ht, List.map_append, List.map_append] at hih
    refine Ev.step (fun k => by rw [span_put.l6]) (Ev.pos f0 (Ev.ixS (by rw [List.length_map]; exact hi') (Ev.bnd (lead_ne c) ?_)))
    rw [rdS, w64_succ hi' (by omega)]
    refine Ev.bnd (has_ev _ (ld_lt y)) ?_
    have hc : clrT y (R.getD i 0) = if bitT (R.getD i 0) (ld y) = true then R.getD i 0 + y else R.getD i 0 := rfl
    have hih : Ev (fun k => span_put.l6 k (R.map toS) (R.length : Int) ((i + 1 : Nat) : Int) (hi y) (lo y) (((R.take i).map (clrT y)).map toS ++ [toS (clrT y (R.getD i 0))])) _ := hih
    rw [hc] at hih
    cases g : bitT (R.getD i 0) (ld y) with
    | true =>
      rw [g, if_pos rfl] at hih
      exact Ev.pos rfl (Ev.bnd (Add_ev _ _) (Ev.pos f3 hih))
    | false =>
      rw [g, if_neg Bool.false_ne_true] at hih
      exact Ev.neg Bool.false_ne_true (Ev.pos f3 hih)
theorem Basis_big (X : List E) (hX : X.length ≤ 20) : Ev (fun k => span_Basis.f k (X.map toS)) ((basT X).map toS) := by
  unfold span_Basis.f
  rw [List.length_map]
  refine Ev.down (g := fun i k => span_Basis.l3 k ((basT (X.take i)).map toS) (X.map toS) (X.length : Int) (i : Int)) (n := X.length) ?_ fun i hi' hih => ?_
  · rw [List.take_of_length_le (Nat.le_refl _)]
    refine Ev.step (fun k => by rw [span_Basis.l3]) ?_
    exact Ev.neg (Int.lt_irrefl _) (Ev.ret' rfl)
  · have ht : X.take (i + 1) = X.take i ++ [X.getD i 0] := by
      rw [List.take_succ_eq_append_getElem hi', List.getD_eq_getElem?_getD, List.getElem?_eq_getElem hi']; rfl
    have hr := rank_le (X.take i)
    rw [List.length_take] at hr
    rw [ht, bas_snoc] at hih
    refine Ev.step (fun k => by rw [span_Basis.l3]) (Ev.pos (by omega) (Ev.ixS (by rw [List.length_map]; exact hi') ?_))
    rw [rdS, w64_succ hi' (by omega)]
    exact Ev.bnd (put_big (bas_red _) (by omega) _) hih
theorem Rank_big (X : List E) (hX : X.length ≤ 20) : Ev (fun k => span_Rank.f k (X.map toS)) (((basT X).length : Nat) : Int) := by
  unfold span_Rank.f
  exact Ev.bnd (Basis_big X hX) (Ev.ret' (by rw [List.length_map]))
theorem In_big (X : List E) (hX : X.length ≤ 20) (x : E) : ∃ r : Bool, Ev (fun k => span_In.f k (X.map toS) (toS x)) r ∧ (r = true ↔ InSp X x) := by
  have hr := rank_le X
  unfold span_In.f
  refine ⟨_, Ev.bnd (Basis_big X hX) (Ev.bnd (less_ev _ (bas_red X).ne (by omega) x) (Ev.ret _)), ?_⟩
  rw [decide_eq_true_eq, ← bas_sp X x, ← less_zero (bas_red X) x]
  exact (eq_zero_iff _).symm
end Go.Proofs.Ytmoekjdlpfjhiaa.Sp
namespace Go.Proofs.Ytmoekjdlpfjhiaa.Sp
open Go.Proofs.Ytmoekjdlpfjhiaa.V.B Go.RowKit Go.Proofs.Ytmoekjdlpfjhiaa.B Go.Proofs.Ytmoekjdlpfjhiaa.V.B.Ar Go.Proofs.Ytmoekjdlpfjhiaa.V.B.Tw
set_option linter.unusedVariables false
set_option linter.unusedSimpArgs false
theorem refHas_ev (x : E) {k : Nat} (h : k < 128) : Ev (fun q => steepleref02_Has.f q (toR x) (k : Int)) (bitT x k) := Has_ev x k h
def tI (t : List Nat) : List Int := t.map fun r : Nat => (r : Int)
theorem tI_length (t : List Nat) : (tI t).length = t.length := List.length_map ..
theorem rdI_tI (t : List Nat) (j : Nat) : rdI (tI t) (j : Int) = ((t.getD j 0 : Nat) : Int) := by
  unfold rdI tI
  rw [Int.toNat_natCast, List.getD_eq_getElem?_getD, List.getD_eq_getElem?_getD, List.getElem?_map]
  cases t[j]? <;> rfl
theorem refin_ev (t : List Nat) (ht : t.length ≤ 1000000) (i : Nat) : Ev (fun k => steepleref04_in.f k (tI t) (i : Int)) (decide (i ∈ t)) := by
  unfold steepleref04_in.f
  suffices key : ∀ d j, j + d = t.length → Ev (fun k => steepleref04_in.l2 k (tI t) (i : Int) (j : Int)) (decide (i ∈ t.drop j)) from key t.length 0 (by omega)
  intro d
  induction d with
  | zero =>
    intro j hj
    refine Ev.step (fun k => by rw [steepleref04_in.l2]) (Ev.neg (by rw [tI_length]; omega) (Ev.ret' ?_))
    rw [List.drop_eq_nil_of_le (by omega)]
    rfl
  | succ d ih =>
    intro j hj
    have hlt : j < t.length := by omega
    have hd : t.drop j = t.getD j 0 :: t.drop (j + 1) := by rw [List.drop_eq_getElem_cons hlt, List.getD_eq_getElem?_getD, List.getElem?_eq_getElem hlt]; rfl
    have f1 : j < (tI t).length := by rw [tI_length]; exact hlt
    have f0 : (j : Int) < ((tI t).length : Int) := by omega
    refine Ev.step (fun k => by rw [steepleref04_in.l2]) (Ev.pos f0 (Ev.ixS f1 ?_))
    rw [rdI_tI, w64_succ hlt (by omega), hd]
    by_cases c : t.getD j 0 = i
    · refine Ev.pos (by omega) (Ev.ret' ?_)
      symm; rw [decide_eq_true_eq, c]; exact List.mem_cons_self
    · refine Ev.neg (by omega) ((ih (j + 1) (by omega)).eqn ?_)
      rw [decide_eq_decide, List.mem_cons]
      exact ⟨.inr, fun h => h.resolve_left fun e => c e.symm⟩
theorem rowE (R : List E) (i : Nat) : R.getD i 0 = row R i := rfl
theorem refclear_ev (R : List E) (hR : R.length ≤ 1000000) {r c : Nat} (hr : r < R.length) (hc : c < 128) : Ev (fun k => steepleref04_clear.f k (R.map toR) (r : Int) (c : Int)) ((clearT R r c).map toR) := by
  unfold steepleref04_clear.f
  refine Ev.down (g := fun i k => steepleref04_clear.l3 k (R.map toR) (r : Int) (c : Int) (i : Int) (((clearT R r c).take i).map toR)) (n := R.length) ?_ fun i hil hih => ?_
  · rw [List.take_of_length_le (by rw [clear_length]; exact Nat.le_refl _)]
    refine Ev.step (fun q => by rw [steepleref04_clear.l3]) ?_
    exact Ev.neg (by rw [List.length_map]; exact Int.lt_irrefl _) (Ev.ret' rfl)
  · have f1 : i < (R.map toR).length := by rw [List.length_map]; exact hil
    have f2 : r < (R.map toR).length := by rw [List.length_map]; exact hr
    have f0 : (i : Int) < ((R.map toR).length : Int) := by omega
    have f3 : ∀ z : S71, (((clearT R r c).take i).map toR).length + [z].length ≤ 140737488355328 / 16 := fun z => by
      rw [List.length_map, List.length_take, clear_length, List.length_singleton]; omega
    have eg : (clearT R r c).getD i 0 = clearF R r c i := row_clear R r c hil
    rw [map_take_succ toR (clearT R r c) 0 i (by rw [clear_length]; exact hil), eg] at hih
    have j4 : ∀ {S : List S71}, Ev (fun k => steepleref04_clear.l3 k (R.map toR) (r : Int) (c : Int) ((i + 1 : Nat) : Int) S) ((clearT R r c).map toR) → Ev (fun k => steepleref04_clear.j4 k (R.map toR) (r : Int) (c : Int) (i : Int) S) ((clearT R r c).map toR) := fun h => by
      refine Ev.step (fun q => by rw [steepleref04_clear.j4]) ?_
      rw [w64_succ hil (by omega)]
      exact h
    have j7 : clearF R r c i = row R i → Ev (fun k => steepleref04_clear.j7 k (R.map toR) (r : Int) (c : Int) (i : Int) (((clearT R r c).take i).map toR)) ((clearT R r c).map toR) := fun e => by
      rw [e] at hih
      refine Ev.step (fun q => by rw [steepleref04_clear.j7]) (Ev.ixS f1 ?_)
      rw [rdR, rowE]
      exact Ev.pos (f3 _) (j4 hih)
    refine Ev.step (fun q => by rw [steepleref04_clear.l3]) (Ev.pos f0 ?_)
    by_cases c1 : i = r
    · exact Ev.pos (by omega) (j7 (by unfold clearF; rw [if_pos c1]))
    · refine Ev.neg (by omega) (Ev.ixS f1 ?_)
      rw [rdR, rowE]
      refine Ev.bnd (refHas_ev (row R i) hc) ?_
      by_cases c2 : bitT (row R i) c = true
      · have e : clearF R r c i = row R i + row R r := by unfold clearF; rw [if_neg c1, if_pos c2]
        rw [e] at hih
        refine Ev.pos c2 (Ev.ixS f1 (Ev.ixS f2 ?_))
        rw [rdR, rowE]
        exact Ev.bnd (refAdd_ev _ _) (Ev.pos (f3 _) (j4 hih))
      · exact Ev.neg c2 (j7 (by unfold clearF; rw [if_neg c1, if_neg c2]))
theorem refcols_ev (X : List E) (hX : X.length ≤ 1000000) : ∀ (c : Nat) (R : List E) (t : List Nat), c ≤ 128 → t.length + c ≤ 128 → Gau X c R t → Ev (fun k => steepleref04_Basis.l4 k (R.map toR) ((c : Int) - 1) (tI t)) ((basT X).map toR) := by
  intro c
  induction c with
  | zero =>
    intro R t _ ht g
    have hR := g.len
    refine Ev.step (fun q => by rw [steepleref04_Basis.l4]) (Ev.neg (by decide) ?_)
    rw [← g.done]
    refine Ev.down (g := fun i k => steepleref04_Basis.l17 k (R.map toR) (i : Int) (tI t) (((t.take i).map (row R)).map toR)) (n := t.length) ?_ fun i hil hih => ?_
    · rw [List.take_of_length_le (Nat.le_refl _)]
      refine Ev.step (fun q => by rw [steepleref04_Basis.l17]) ?_
      exact Ev.neg (by rw [tI_length]; exact Int.lt_irrefl _) (Ev.ret' rfl)
    · have f1 : i < (tI t).length := by rw [tI_length]; exact hil
      have f0 : (i : Int) < ((tI t).length : Int) := by omega
      have f3 : ∀ z : S71, (((t.take i).map (row R)).map toR).length + [z].length ≤ 140737488355328 / 16 := fun z => by
        rw [List.length_map, List.length_map, List.length_take, List.length_singleton]; omega
      have hm : t.getD i 0 ∈ t := by rw [List.getD_eq_getElem?_getD, List.getElem?_eq_getElem hil]; exact List.getElem_mem hil
      have f4 : t.getD i 0 < (R.map toR).length := by rw [List.length_map]; exact g.lt _ hm
      rw [map_take_succ (row R) t 0 i hil, List.map_append] at hih
      refine Ev.step (fun q => by rw [steepleref04_Basis.l17]) (Ev.pos f0 (Ev.ixS f1 ?_))
      rw [rdI_tI, w64_succ hil (by omega)]
      refine Ev.ixS f4 ?_
      rw [rdR, rowE]
      exact Ev.pos (f3 _) hih
  | succ c ih =>
    intro R t hc ht g
    have hR := g.len
    have ec : ((c + 1 : Nat) : Int) - 1 = (c : Int) := by omega
    have ew : wrap64 ((c : Int) - 1) = (c : Int) - 1 := w64_id (by omega) (by omega)
    rw [ec]
    clear ec
    refine Ev.step (fun q => by rw [steepleref04_Basis.l4]) (Ev.pos (Int.natCast_nonneg _) ?_)
    have stop : ∀ r, r < R.length → r ∉ t → bitT (row R r) c = true → ∀ d i, i + d = R.length → Ev (fun k => steepleref04_Basis.l8 k (R.map toR) (c : Int) (r : Int) (i : Int) (tI t)) ((basT X).map toR) := by
      intro r hr hrt hb d
      induction d with
      | zero =>
        intro i hid
        have f0 : ¬ ((i : Int) < ((R.map toR).length : Int)) := by rw [List.length_map]; omega
        have f1 : (tI t).length + [(r : Int)].length ≤ 140737488355328 / 8 := by rw [tI_length, List.length_singleton]; omega
        have es : tI t ++ [(r : Int)] = tI (t ++ [r]) := by unfold tI; rw [List.map_append]; rfl
        refine Ev.step (fun q => by rw [steepleref04_Basis.l8]) (Ev.neg f0 (Ev.pos (Int.natCast_nonneg _) (Ev.bnd (refclear_ev R (by omega) hr (by omega)) (Ev.pos f1 ?_))))
        rw [ew, es]
        exact ih _ _ (by omega) (by rw [List.length_append, List.length_singleton]; omega) (g.take hr hrt hb)
      | succ d ihd =>
        intro i hid
        have f0 : (i : Int) < ((R.map toR).length : Int) := by rw [List.length_map]; omega
        refine Ev.step (fun q => by rw [steepleref04_Basis.l8]) (Ev.pos f0 (Ev.neg (by omega) (Ev.step (fun q => by rw [steepleref04_Basis.j9]) ?_)))
        rw [w64_succ (show i < i + 1 by omega) (by omega)]
        exact ihd (i + 1) (by omega)
    suffices key : ∀ d i, i + d = R.length → (∀ j, j < i → j ∉ t → bitT (row R j) c = false) → Ev (fun k => steepleref04_Basis.l8 k (R.map toR) (c : Int) (-1) (i : Int) (tI t)) ((basT X).map toR) from key R.length 0 (by omega) (fun j hj => absurd hj (Nat.not_lt_zero j))
    intro d
    induction d with
    | zero =>
      intro i hid h
      have f0 : ¬ ((i : Int) < ((R.map toR).length : Int)) := by rw [List.length_map]; omega
      have f2 : ¬ ((-1 : Int) ≥ 0) := by decide
      refine Ev.step (fun q => by rw [steepleref04_Basis.l8]) (Ev.neg f0 (Ev.neg f2 ?_))
      rw [ew]
      exact ih _ _ (by omega) (by omega) (g.skip fun j hj => h j (by omega))
    | succ d ihd =>
      intro i hid h
      have hil : i < R.length := by omega
      have f1 : i < (R.map toR).length := by rw [List.length_map]; exact hil
      have f0 : (i : Int) < ((R.map toR).length : Int) := by omega
      have f2 : (-1 : Int) < 0 := by decide
      have next : (i ∉ t → bitT (row R i) c = false) → Ev (fun k => steepleref04_Basis.j9 k (R.map toR) (c : Int) (-1) (i : Int) (tI t)) ((basT X).map toR) := fun hn => by
        refine Ev.step (fun q => by rw [steepleref04_Basis.j9]) ?_
        rw [w64_succ (show i < i + 1 by omega) (by omega)]
        refine ihd (i + 1) (by omega) fun j hj hjt => ?_
        by_cases e : j = i
        · rw [e]; exact hn (e ▸ hjt)
        · exact h j (by omega) hjt
      refine Ev.step (fun q => by rw [steepleref04_Basis.l8]) (Ev.pos f0 (Ev.pos f2 (Ev.ixS f1 ?_)))
      rw [rdR, rowE]
      refine Ev.bnd (refHas_ev (row R i) (by omega)) ?_
      by_cases c2 : bitT (row R i) c = true
      · refine Ev.pos c2 (Ev.bnd (refin_ev t (by omega) i) ?_)
        by_cases c3 : i ∈ t
        · rw [decide_eq_true c3]
          exact Ev.neg (by decide) (next fun h => absurd c3 h)
        · rw [decide_eq_false c3]
          refine Ev.pos (by decide) (Ev.step (fun q => by rw [steepleref04_Basis.j9]) ?_)
          rw [w64_succ (show i < i + 1 by omega) (by omega)]
          exact stop i hil c3 c2 d (i + 1) (by omega)
      · exact Ev.neg c2 (next fun _ => by simpa using c2)
theorem bitT_top (x : E) (k : Nat) (h : 128 ≤ k) : bitT x k = false := by
  have hv := val_lt x
  rw [Q_seven] at hv
  exact Nat.testBit_lt_two_pow (Nat.lt_of_lt_of_le hv (Nat.pow_le_pow_right (by decide) h))
theorem refBasis_ev (X : List E) (hX : X.length ≤ 1000000) : Ev (fun k => steepleref04_Basis.f k (X.map toR)) ((basT X).map toR) :=
  refcols_ev X hX 128 X [] (Nat.le_refl _) (Nat.le_refl _) (Gau.start X 128 fun x k h => bitT_top x k h)
theorem refIn_ev (X : List E) (hX : X.length ≤ 100000) (x : E) : ∃ r : Bool, Ev (fun k => steepleref04_In.f k (X.map toR) (toR x)) r ∧ (r = true ↔ InSp X x) := by
  refine ⟨decide ((((basT (X ++ [x])).map toR).length : Int) = (((basT X).map toR).length : Int)), ?_, ?_⟩
  · unfold steepleref04_In.f
    refine Ev.down (g := fun i k => steepleref04_In.l3 k (X.map toR) (i : Int) (hi x) (lo x) ((X.take i).map toR)) (n := X.length) ?_ fun i hil hih => ?_
    · rw [List.take_of_length_le (Nat.le_refl _)]
      have f1 : (X.map toR).length + [toR x].length ≤ 140737488355328 / 16 := by rw [List.length_map, List.length_singleton]; omega
      have es : X.map toR ++ [toR x] = (X ++ [x]).map toR := by rw [List.map_append]; rfl
      refine Ev.step (fun q => by rw [steepleref04_In.l3]) (Ev.neg (by rw [List.length_map]; exact Int.lt_irrefl _) (Ev.pos f1 ?_))
      rw [show (⟨hi x, lo x⟩ : S71) = toR x from rfl, es]
      exact Ev.bnd (refBasis_ev _ (by rw [List.length_append, List.length_singleton]; omega)) (Ev.bnd (refBasis_ev X (by omega)) (Ev.ret _))
    · have f1 : i < (X.map toR).length := by rw [List.length_map]; exact hil
      have f0 : (i : Int) < ((X.map toR).length : Int) := by omega
      have f3 : ∀ z : S71, ((X.take i).map toR).length + [z].length ≤ 140737488355328 / 16 := fun z => by
        rw [List.length_map, List.length_take, List.length_singleton]; omega
      rw [map_take_succ toR X 0 i hil] at hih
      refine Ev.step (fun q => by rw [steepleref04_In.l3]) (Ev.pos f0 (Ev.ixS f1 ?_))
      rw [rdR, w64_succ hil (by omega)]
      exact Ev.pos (f3 _) hih
  · rw [decide_eq_true_eq, List.length_map, List.length_map]
    rcases rank_snoc X x with ⟨h1, h2⟩ | ⟨h1, h2⟩
    · exact ⟨fun _ => h2, fun _ => by omega⟩
    · exact ⟨fun h => by omega, fun h => absurd h h2⟩
end Go.Proofs.Ytmoekjdlpfjhiaa.Sp
namespace Go.Proofs.Ytmoekjdlpfjhiaa.Sp
open Go.Proofs.Ytmoekjdlpfjhiaa.V.B Go.RowKit Go.Proofs.Ytmoekjdlpfjhiaa.B Go.Proofs.Ytmoekjdlpfjhiaa.V.B.Ar Go.Proofs.Ytmoekjdlpfjhiaa.V.B.Tw
set_option linter.unusedVariables false
set_option linter.unusedSimpArgs false
theorem refLead_ev (x : E) : Ev (fun k => steepleref04_Lead.f k (toR x)) (((blen (val x) : Nat) : Int) - 1) := by
  unfold steepleref04_Lead.f
  have e0 : ((blen (val x) : Nat) : Int) - 1 = ((blen (val x % 2 ^ 128) : Nat) : Int) - 1 := by
    have := val_lt x
    rw [Q_seven] at this
    rw [Nat.mod_eq_of_lt this]
  rw [e0]
  suffices key : Ev (fun k => steepleref04_Lead.l3 k (((blen (val x % 2 ^ 0) : Nat) : Int) - 1) ((0 : Nat) : Int) (hi x) (lo x)) (((blen (val x % 2 ^ 128) : Nat) : Int) - 1) by
    rw [Nat.pow_zero, Nat.mod_one, show ((blen 0 : Nat) : Int) - 1 = -1 from rfl] at key
    exact key
  refine Ev.down (g := fun i k => steepleref04_Lead.l3 k (((blen (val x % 2 ^ i) : Nat) : Int) - 1) (i : Int) (hi x) (lo x)) (n := 128) ?_ fun i hil hih => ?_
  · refine Ev.step (fun q => by rw [steepleref04_Lead.l3]) ?_
    exact Ev.neg (by decide) (Ev.ret _)
  · have f0 : (i : Int) < 128 := by omega
    have hs : val x % 2 ^ (i + 1) = val x % 2 ^ i + 2 ^ i * (val x / 2 ^ i % 2) := Nat.mod_pow_succ
    have hd : bitT x i = decide (val x / 2 ^ i % 2 = 1) := Nat.testBit_eq_decide_div_mod_eq
    refine Ev.step (fun q => by rw [steepleref04_Lead.l3]) (Ev.pos f0 (Ev.bnd (refHas_ev x hil) ?_))
    rw [w64_succ hil (by decide)]
    by_cases c : bitT x i = true
    · have hm : val x % 2 ^ i < 2 ^ i := Nat.mod_lt _ (Nat.two_pow_pos i)
      rw [c] at hd
      have hd1 : val x / 2 ^ i % 2 = 1 := by simpa using hd.symm
      rw [hd1, Nat.mul_one] at hs
      have e : blen (val x % 2 ^ (i + 1)) = i + 1 := by
        have h1 := (blen_le (val x % 2 ^ (i + 1)) (i + 1)).2 (Nat.mod_lt _ (Nat.two_pow_pos _))
        have h2 : ¬ blen (val x % 2 ^ (i + 1)) ≤ i := fun g => by
          have := (blen_le _ _).1 g
          rw [hs] at this
          omega
        omega
      rw [e] at hih
      have e3 : ((i + 1 : Nat) : Int) - 1 = (i : Int) := by omega
      rw [e3] at hih
      exact Ev.pos c hih
    · have hd0 : val x / 2 ^ i % 2 = 0 := by
        have : ¬ val x / 2 ^ i % 2 = 1 := fun g => c (by rw [hd, g]; rfl)
        omega
      have e : val x % 2 ^ (i + 1) = val x % 2 ^ i := by rw [hs, hd0, Nat.mul_zero, Nat.add_zero]
      rw [e] at hih
      exact Ev.neg c hih
theorem equal_ev (X Y : List E) (hX : X.length ≤ 1000000) : Ev (fun k => slices_Equal72.f k (X.map toS) (Y.map toS)) (decide (X = Y)) := by
  unfold slices_Equal72.f
  rw [List.length_map, List.length_map]
  by_cases c : (X.length : Int) = (Y.length : Int)
  rotate_left
  · rw [decide_eq_false fun e => c (by rw [e])]
    exact Ev.neg c (Ev.ret _)
  refine Ev.pos c ?_
  have hl : X.length = Y.length := by omega
  have key : ∀ d i, i + d = X.length → (∀ p, p < i → X.getD p 0 = Y.getD p 0) → Ev (fun k => slices_Equal72.l4 k (X.map toS) (Y.map toS) (X.length : Int) (i : Int)) (decide (X = Y)) := by
    intro d
    induction d with
    | zero =>
      intro i hi' hp
      have : i = X.length := by omega
      subst this
      rw [decide_eq_true (ext_getD hl hp)]
      refine Ev.step (fun k => by rw [slices_Equal72.l4]) ?_
      exact Ev.neg (Int.lt_irrefl _) (Ev.ret _)
    | succ d ih =>
      intro i hi' hp
      refine Ev.step (fun k => by rw [slices_Equal72.l4]) (Ev.pos (by omega) (Ev.ixS (by rw [List.length_map]; omega) (Ev.ixS (by rw [List.length_map]; omega) ?_)))
      rw [rdS, rdS, w64_succ (show i < X.length by omega) (by omega)]
      by_cases e : X.getD i 0 = Y.getD i 0
      · refine Ev.pos (by rw [e]; exact ⟨rfl, rfl⟩) (ih (i + 1) (by omega) fun p h1 => ?_)
        by_cases g : p = i
        · rw [g]; exact e
        · exact hp p (by omega)
      · rw [decide_eq_false fun h => e (by rw [h])]
        exact Ev.neg (fun h => e (hl_inj h.1 h.2)) (Ev.ret _)
  exact key X.length 0 (by omega) fun p h => by omega
theorem spanPt_ev (X : List E) (hX : X.length ≤ 1000) (n : Int) : ∃ p : E, InSp X p ∧ Ev (fun k => span_Point.f k (X.map toS) n) (toS p) := by
  have em : (if 62 < (X.length : Int) then (62 : Int) else (X.length : Int)) = ((min 62 X.length : Nat) : Int) := by split <;> omega
  unfold span_Point.f
  rw [List.length_map, em]
  have hm : min 62 X.length ≤ X.length := Nat.min_le_right _ _
  generalize min 62 X.length = m at *
  have key : ∀ d i, i + d = m → ∀ y : E, InSp X y → ∃ p : E, InSp X p ∧ Ev (fun k => span_Point.l3 k (X.map toS) n (m : Int) (i : Int) 0 0 (hi y) (lo y)) (toS p) := by
    intro d
    induction d with
    | zero =>
      intro i hi' y hy
      have : i = m := by omega
      subst this
      refine ⟨y, hy, Ev.step (fun k => by rw [span_Point.l3]) ?_⟩
      exact Ev.neg (Int.lt_irrefl _) (Ev.ret' rfl)
    | succ d ih =>
      intro i hi' y hy
      have f0 : (i : Int) < (m : Int) := by omega
      have j7 : ∀ z : E, InSp X z → ∃ p : E, InSp X p ∧ Ev (fun k => span_Point.j7 k (X.map toS) n (m : Int) (i : Int) 0 0 (hi z) (lo z)) (toS p) := fun z hz => by
        obtain ⟨p, h1, h2⟩ := ih (i + 1) (by omega) z hz
        refine ⟨p, h1, Ev.step (fun k => by rw [span_Point.j7]) ?_⟩
        rw [w64_succ (show i < m by omega) (by omega)]
        exact h2
      by_cases c1 : n > 0
      · by_cases c2 : Go.bits .and .i64 (shr .i64 n (i : Int)) 1 = 1
        · obtain ⟨p, h1, h2⟩ := j7 (y + X.getD i 0) (hy.add (InSp.mem (by rw [List.getD_eq_getElem?_getD, List.getElem?_eq_getElem (show i < X.length by omega)]; exact List.getElem_mem _)))
          refine ⟨p, h1, Ev.step (fun k => by rw [span_Point.l3]) (Ev.pos f0 (Ev.pos c1 (Ev.pos (by omega) (Ev.pos c2 (Ev.ixS (by rw [List.length_map]; omega) ?_)))))⟩
          rw [rdS]
          exact Ev.bnd (Add_ev _ _) h2
        · obtain ⟨p, h1, h2⟩ := j7 y hy
          exact ⟨p, h1, Ev.step (fun k => by rw [span_Point.l3]) (Ev.pos f0 (Ev.pos c1 (Ev.pos (by omega) (Ev.neg c2 h2))))⟩
      · obtain ⟨p, h1, h2⟩ := j7 y hy
        exact ⟨p, h1, Ev.step (fun k => by rw [span_Point.l3]) (Ev.pos f0 (Ev.neg c1 h2))⟩
  have := key m 0 (by omega) 0 (InSp.zero X)
  rw [hi_zero, lo_zero] at this
  exact this
end Go.Proofs.Ytmoekjdlpfjhiaa.Sp
namespace Go.Proofs.Ytmoekjdlpfjhiaa.Sp
open Go.Proofs.Ytmoekjdlpfjhiaa.V.B Go.RowKit Go.Proofs.Ytmoekjdlpfjhiaa.B Go.Proofs.Ytmoekjdlpfjhiaa.V.B.Ar Go.Proofs.Ytmoekjdlpfjhiaa.V.B.Tw
set_option linter.unusedVariables false
theorem Ev.at {α : Type} {g : Nat → Option α} {r : α} (K : Nat) (h : ∀ k, g (k + K) = some r) : Ev g r := ⟨K, fun k hk => by
  obtain ⟨d, rfl⟩ := Nat.le.dest hk
  rw [Nat.add_comm]; exact h d⟩
theorem spanAwake_ev : Ev (fun k => steeplelaw04_awake.f k) true := Ev.at 400 fun k => by kernel_rfl
theorem Same_big {X Y : List E} (hX : X.length ≤ 20) (hY : Y.length ≤ 20) : Ev (fun k => span_Same.f k (X.map toS) (Y.map toS)) (decide (basT X = basT Y)) := by
  have hr := rank_le X
  unfold span_Same.f
  exact Ev.bnd (Basis_big X hX) (Ev.bnd (Basis_big Y hY) (Ev.bnd (equal_ev _ _ (by omega)) (Ev.ret _)))
theorem In_yes {X : List E} (hX : X.length ≤ 20) {x : E} (h : InSp X x) : Ev (fun k => span_In.f k (X.map toS) (toS x)) true := by
  obtain ⟨r, h1, h2⟩ := In_big X hX x
  rw [h2.2 h] at h1
  exact h1
theorem leadN_ev {x : E} (h : x ≠ 0) : Ev (fun k => steepleref04_Lead.f k (toR x)) ((ld x : Nat) : Int) := by
  have := refLead_ev x
  rw [blen_ld h] at this
  exact this.eqn (by omega)
end Go.Proofs.Ytmoekjdlpfjhiaa.Sp
namespace Go.Proofs.Ytmoekjdlpfjhiaa.Pure
open Go.Proofs.Ytmoekjdlpfjhiaa.V.B Go.RowKit Go.Proofs.Ytmoekjdlpfjhiaa.B Go.Proofs.Ytmoekjdlpfjhiaa.V.B.Ar Go.Proofs.Ytmoekjdlpfjhiaa.V.B.Tw Sp
set_option linter.unusedVariables false
theorem keeps_l16 {X B : List E} (hB : B.length ≤ 20) (n : Int) {i : Nat} (hi' : i < B.length) (own : ∀ p, p < B.length → p ≠ i → bitT (B.getD p 0) (ld (B.getD i 0)) = false)
    (h : Ev (fun k => steeplelaw04_SpanKeeps.l10 k (X.map toS) n (B.map toS) ((i + 1 : Nat) : Int)) true) : Ev (fun k => steeplelaw04_SpanKeeps.l16 k (X.map toS) n (B.map toS) (i : Int) ((ld (B.getD i 0) : Nat) : Int) 0) true := by
  refine Ev.down (g := fun j k => steeplelaw04_SpanKeeps.l16 k (X.map toS) n (B.map toS) (i : Int) ((ld (B.getD i 0) : Nat) : Int) (j : Int)) (n := B.length) ?_ fun j hj hjh => ?_
  · refine Ev.step (fun k => by rw [steeplelaw04_SpanKeeps.l16]) (Ev.neg (by rw [List.length_map]; exact Int.lt_irrefl _) ?_)
    rw [w64_succ hi' (by omega)]
    exact h
  · have f0 : (j : Int) < ((B.map toS).length : Int) := by rw [List.length_map]; omega
    refine Ev.step (fun k => by rw [steeplelaw04_SpanKeeps.l16]) (Ev.pos f0 ?_)
    rw [w64_succ hj (by omega)]
    by_cases c : j = i
    · exact Ev.pos (by rw [c]) hjh
    · refine Ev.neg (by omega) (Ev.ixS (by rw [List.length_map]; exact hj) ?_)
      rw [rdS]
      have hh := refHas_ev (B.getD j 0) (ld_lt (B.getD i 0))
      rw [own j hj c] at hh
      exact Ev.bnd hh (Ev.neg (by decide) hjh)
theorem SpanKeeps : Stated.spanKeeps.Pure := by
  rintro XS n ⟨hXS, _⟩ _
  obtain ⟨X, rfl⟩ := list_of XS hXS
  clear hXS
  refine Ev.rounds (g := fun k => steeplelaw04_SpanKeeps.f k (X.map toS) n) ?_
  unfold steeplelaw04_SpanKeeps.f
  rw [List.length_map]
  by_cases c1 : (X.length : Int) > 20
  · exact Ev.pos c1 (Ev.bnd spanAwake_ev (Ev.ret _))
  have hX : X.length ≤ 20 := by omega
  have hr := rank_le X
  have hred := bas_red X
  have hsp := bas_sp X
  refine Ev.neg c1 (Ev.bnd (Basis_big X hX) ?_)
  obtain ⟨B, hBe⟩ : ∃ B, B = basT X := ⟨_, rfl⟩
  rw [← hBe] at hr hred hsp ⊢
  have hB : B.length ≤ 20 := by omega
  have mem : ∀ i, i < B.length → B.getD i 0 ∈ B := fun i hi' => mem_get.2 ⟨i, hi', rfl⟩
  have sorted : ∀ i j, i < j → j < B.length → ld (B.getD j 0) < ld (B.getD i 0) := fun i j hij hj => by
    have := List.pairwise_iff_getElem.1 hred.fall i j (by omega) hj hij
    rw [List.getD_eq_getElem?_getD, List.getD_eq_getElem?_getD, List.getElem?_eq_getElem hj, List.getElem?_eq_getElem (show i < B.length by omega)]
    exact this
  have fin : Ev (fun k => steeplelaw04_SpanKeeps.l10 k (X.map toS) n (B.map toS) ((0 : Nat) : Int)) true := by
    refine Ev.down (g := fun i k => steeplelaw04_SpanKeeps.l10 k (X.map toS) n (B.map toS) (i : Int)) (n := B.length) ?_ fun i hil hih => ?_
    · obtain ⟨p, hp, hpe⟩ := spanPt_ev X (by omega) n
      have hs := Same_big hX hB
      have hbb : basT B = B := (bas_red B).uniq hred fun x => bas_sp B x
      rw [hbb, decide_eq_true hBe.symm] at hs
      refine Ev.step (fun k => by rw [steeplelaw04_SpanKeeps.l10]) (Ev.neg (by rw [List.length_map]; exact Int.lt_irrefl _) (Ev.bnd spanAwake_ev (Ev.pos rfl (Ev.bnd hpe (Ev.bnd (In_yes hX hp) (Ev.pos rfl (Ev.bnd hs (Ev.ret _))))))))
    · have f0 : (i : Int) < ((B.map toS).length : Int) := by rw [List.length_map]; omega
      have f1 : i < (B.map toS).length := by rw [List.length_map]; omega
      have hne := hred.ne _ (mem i hil)
      have hin : InSp X (B.getD i 0) := (hsp _).1 (InSp.mem (mem i hil))
      have h16 := keeps_l16 hB n hil (fun p hp hpi => hred.own _ (mem i hil) _ (mem p hp) fun e => by
        have hd := congrArg ld e
        rcases Nat.lt_or_gt_of_ne hpi with g | g
        · have := sorted p i g hil; omega
        · have := sorted i p g hp; omega) hih
      have hlead := leadN_ev hne
      refine Ev.step (fun k => by rw [steeplelaw04_SpanKeeps.l10]) (Ev.pos f0 (Ev.ixS f1 ?_))
      rw [rdS]
      refine Ev.bnd hlead (Ev.neg (by omega) (Ev.pos (by omega) (Ev.pos f0 (Ev.bnd (In_yes hX hin) (Ev.neg (by decide) ?_)))))
      by_cases c : (i : Int) > 0
      · have e1 : wrap64 ((i : Int) - 1) = ((i - 1 : Nat) : Int) := by rw [w64_id (by omega) (by omega)]; omega
        have hs := sorted (i - 1) i (by omega) hil
        refine Ev.pos c ?_
        rw [e1]
        refine Ev.ixS (by rw [List.length_map]; omega) ?_
        rw [rdS]
        exact Ev.bnd (leadN_ev (hred.ne _ (mem (i - 1) (by omega)))) (Ev.neg (by omega) h16)
      · exact Ev.neg c h16
  have fin : Ev (fun k => steeplelaw04_SpanKeeps.l10 k (X.map toS) n (B.map toS) 0) true := fin
  refine Ev.down (g := fun i k => steeplelaw04_SpanKeeps.l5 k (X.map toS) n (B.map toS) (i : Int)) (n := X.length) ?_ fun i hil hih => ?_
  · refine Ev.step (fun k => by rw [steeplelaw04_SpanKeeps.l5]) ?_
    exact Ev.neg (by rw [List.length_map]; exact Int.lt_irrefl _) fin
  · have f0 : (i : Int) < ((X.map toS).length : Int) := by rw [List.length_map]; omega
    have hin : InSp B (X.getD i 0) := (hsp _).2 (InSp.mem (mem_get.2 ⟨i, hil, rfl⟩))
    refine Ev.step (fun k => by rw [steeplelaw04_SpanKeeps.l5]) (Ev.pos f0 (Ev.ixS (by rw [List.length_map]; exact hil) ?_))
    rw [rdS, w64_succ hil (by omega)]
    exact Ev.bnd (In_yes hB hin) (Ev.neg (by decide) hih)
end Go.Proofs.Ytmoekjdlpfjhiaa.Pure
namespace Go.Proofs.Ytmoekjdlpfjhiaa.spanKeeps
open Go.Proofs.Ytmoekjdlpfjhiaa.V.B Go.ChangeShapes Go.WideShapes Go.ChangeAt Go.RowKit Go.Proofs.Ytmoekjdlpfjhiaa.B
set_option linter.unusedVariables false
set_option linter.unusedSimpArgs false
theorem own : ownKnob Try.prog.godebug = none := by kernel_rfl
theorem laidOut : laidOutB Try.prog = true := by kernel_rfl
def tab1 : Tab := ⟨[(3, .int .i64), (32, .int .u64), (34, .st 0), (41, .slice (.st 0))], [], [(41, 16)], [], []⟩
theorem tab1_ok : tab1.chk E Try.prog = true := by kernel_rfl
theorem tie1 (calls : Nat → Option (Sig E.toTys)) : Tie (XR E) Try.prog (tab1.ctx calls) := tie_of zl_ok tab1_ok calls
theorem sts : chkSt E Try.prog tab1 tab1.tys = true := by kernel_rfl
set_option maxRecDepth 100000 in
theorem lifted (os : Os) (started : os.Started) (H : Type) (enc : TypeId × Value → H) :
    ReturnsInHanded {} Try.checked os 8 .any (Rows.spanKeepsSpec.pre6 enc Try.prog Try.f8 Rows.spanKeepsRow.domain false) (Rows.spanKeepsSpec.post enc Try.prog Try.f8 false true false false) := by
  refine returnsInHanded_of_change_sized (C := Try.checked) own started (by kernel_rfl) Try.func8
    (ChangeSpec.witness6 (enc := enc) (C := Try.checked) false ⟨#[], #[.slice none 0 0, .int .i64 0], []⟩ 8 (by kernel_rfl) (by kernel_rfl) (by kernel_rfl) (by kernel_rfl)) ?_
  intro W base args ds gs before hval0 hW hcnd hsz0 _
  have hval : ∀ (j : Nat) t v, Try.f8.params[j]? = some t → args[j]? = some v → Value.okWide Try.prog W .any base t v := hval0
  have hW' := hW
  obtain ⟨p, q, hA0, hV, rfl, hfz, hnd⟩ := hW
  have hA : DataW.TrodAll enc Try.prog W 0 (fun _ => true) true Try.f8.params.toList args.toList ds p := hA0
  rw [Try.params8] at hA hval
  obtain ⟨v0, vs0, d0, ds0, p0, q0, hargs, rfl, rfl, h0, r0⟩ := trodAll_cons hA
  obtain ⟨v1, vs1, d1, ds1, p1, q1, rfl, rfl, rfl, h1, r1⟩ := trodAll_cons r0
  obtain ⟨rfl, rfl, rfl⟩ := trodAll_nil r1
  obtain rfl : args = #[v0, v1] := by cases args; simp_all
  obtain ⟨rfl, rfl⟩ := trodVars_none hV
  have k0 := h0
  have lt0 : ∀ x ∈ p0, x.block < W.heap.size := by obtain ⟨m, hm⟩ := k0; exact DataW.trod_lt m _ _ _ hm
  obtain ⟨x0, cs0, e0, R0, g0⟩ := arg_ok tie1 sts (t := 41) (ty := .slice (.st 0)) rfl rfl (hval 0 41 v0 rfl rfl) h0
  have k1 := h1
  have lt1 : ∀ x ∈ p1, x.block < W.heap.size := by obtain ⟨m, hm⟩ := k1; exact DataW.trod_lt m _ _ _ hm
  obtain ⟨x1, cs1, e1, R1, g1⟩ := arg_ok tie1 sts (t := 3) (ty := .int .i64) rfl rfl (hval 1 3 v1 rfl rfl) h1
  clear hA0 hval0 hsz0
  obtain ⟨k, hpure⟩ := Pure.SpanKeeps x0 x1 (g0 4) (g1 4)
  refine ((steeplelaw04_SpanKeeps.ok k).1 (x0, (x1, ())) true hpure W (fun b => b < W.heap.size) [v0, v1] (fun b hb => hb) ⟨_, _, cs0, rfl, R0, e0, ⟨_, _, cs1, rfl, R1, e1, rfl⟩⟩).mono fun e W2 hh => ?_
  obtain ⟨rfl, bel⟩ := ret_bool hh
  exact ⟨_, rfl, _, _, _, [], _, [], hW', trodAll_mk1 (shut_bool Try.underlying4 _), (trodAll_cons_mk (Below.trod laidOut (by kernel_rfl) (of_decide_eq_true (by kernel_rfl)) k0 bel lt0) (trodAll_cons_mk (Below.trod laidOut (by kernel_rfl) (of_decide_eq_true (by kernel_rfl)) k1 bel lt1) trodAll_mk0)), rfl, bel.frame _, fun h => by cases h⟩
theorem over : Rows.spanKeepsRow.holds Try.pinned (OpenSpec.ofChange Rows.spanKeepsSpec) :=
  OpenClaim.holds_of_wide 8 Try.f8 rfl rfl rfl rfl rfl rfl rfl ⟨rfl, rfl, rfl, rfl, rfl⟩ rfl rfl rfl rfl rfl (by kernel_rfl) Try.func8 (by kernel_rfl)
    (of_decide_eq_true (by kernel_rfl)) (by unfold Func.isWrapper; first | (rw [if_pos (by decide +kernel)]; kernel_rfl) | (rw [if_neg (by decide +kernel)]; exact ⟨rfl, rfl⟩))
    (fun os started H enc _ => lifted os started H enc)
end Go.Proofs.Ytmoekjdlpfjhiaa.spanKeeps
namespace Go.Proofs.Ytmoekjdlpfjhiaa
/-- The law, for every input. -/
theorem spanKeeps_holds : Rows.SpanKeepsSaid := spanKeeps.over
#print axioms spanKeeps_holds
end Go.Proofs.Ytmoekjdlpfjhiaa

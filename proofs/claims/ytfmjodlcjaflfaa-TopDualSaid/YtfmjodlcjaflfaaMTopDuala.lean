/- TopDual: bits that are packed are found by traces with the dual elements. Own text. -/
import Derived.Test.YtfmjodlcjaflfaaRows
import Derived.WalkKit
import Derived.ProofKit
import Derived.OpenShut
import Derived.ShutString
import Derived.ChangeOld
import Derived.Below
import Derived.SizedLaws
import Derived.Carry
import Derived.Test.YtfmjodlcjaflfaaMBa
import Derived.Test.YtfmjodlcjaflfaaMBb
import Derived.Test.YtfmjodlcjaflfaaMBc
import Derived.Test.YtfmjodlcjaflfaaMFa
set_option linter.unusedSimpArgs false
set_option linter.unusedVariables false
namespace Go.Proofs.Ytfmjodlcjaflfaa.Stated.topDual
open Go.Proofs.Ytfmjodlcjaflfaa.V.B Go.RowKit Go.Proofs.Ytfmjodlcjaflfaa.B
def Pure : Prop := ∀ (x0 : Int) (x1 : S25), ((Lit.int .i64 x0).wf = true) → (((∀ y0 ∈ x1.f0, True) ∧ x1.f0.length ≤ maxLen) ∧ ((∀ y0 ∈ x1.f1, ((Lit.int .u64 y0.f0).wf = true) ∧ ((Lit.int .u64 y0.f1).wf = true)) ∧ x1.f1.length ≤ maxLen) ∧ ((∀ y0 ∈ x1.f2, ((Lit.int .u64 y0.f0).wf = true) ∧ ((Lit.int .u64 y0.f1).wf = true)) ∧ x1.f2.length ≤ maxLen)) → ∃ k, steepletop_TopDual.f k x0 x1 = some true
end Go.Proofs.Ytfmjodlcjaflfaa.Stated.topDual
namespace Go.Proofs.Ytfmjodlcjaflfaa.Sp
open Go.Proofs.Ytfmjodlcjaflfaa.V.B Go.RowKit Go.Proofs.Ytfmjodlcjaflfaa.B Go.Proofs.Ytfmjodlcjaflfaa.V.B.Ar Go.Proofs.Ytfmjodlcjaflfaa.V.B.Tw
set_option linter.unusedVariables false
set_option linter.unusedSimpArgs false
theorem Q_le_64 {n : Nat} (h : n ≤ 6) : Q n ≤ 2 ^ 64 := Q_mono h
theorem Q_dvd {n : Nat} : Q n = 2 ^ 2 ^ n := rfl
theorem two_pow_le_32 {n : Nat} (h : n ≤ 5) : 2 ^ n ≤ 32 := Nat.pow_le_pow_right (n := 2) (by decide) h
theorem w64_pred {l : Nat} (h : l + 1 ≤ 1000) : wrap64 (((l + 1 : Nat) : Int) - 1) = (l : Int) := by rw [w64_id (by omega) (by omega)]; omega
theorem Q_lt_64 {n : Nat} (h : n ≤ 5) : Q n < 2 ^ 64 := Nat.pow_lt_pow_right (by decide) (by have := two_pow_le_32 h; omega)
theorem halves_eq (k : Nat) {l : Nat} (hl : l ≤ 5) (x : Nat) (hx : x < 2 ^ 64) : tower_halves.f k ((l + 1 : Nat) : Int) (x : Int) = some (((x / Q l : Nat) : Int), ((x % Q l : Nat) : Int)) := by
  unfold tower_halves.f
  have h32 := two_pow_le_32 hl
  have hQ := Q_lt_64 hl
  have hm : IntKind.u64.wrap (((2 ^ 2 ^ l : Nat) : Int) - 1) = ((2 ^ 2 ^ l - 1 : Nat) : Int) := by
    have := Nat.two_pow_pos (2 ^ l)
    unfold Q at hQ
    generalize 2 ^ 2 ^ l = q at *
    rw [u64_id (by omega) (by omega)]; omega
  rw [w64_pred (by omega), if_pos (Int.natCast_nonneg _), shl_i64 l (by omega), if_pos (Int.natCast_nonneg _), shr_u64 x (2 ^ l) (by omega), shl_u64 (2 ^ l) (by omega), hm]
  rw [and_u64 x _ hx (by have := Nat.two_pow_pos (2 ^ l); unfold Q at hQ; omega), Nat.and_two_pow_sub_one_eq_mod]
  rfl
theorem join_eq (k : Nat) {l : Nat} (hl : l ≤ 5) (h x : Nat) (hh : h < Q l) (hx : x < Q l) : tower_join.f k ((l + 1 : Nat) : Int) (h : Int) (x : Int) = some ((h * Q l + x : Nat) : Int) := by
  unfold tower_join.f
  have h32 := two_pow_le_32 hl
  have hQ := Q_lt_64 hl
  have h6 : Q (l + 1) ≤ 2 ^ 64 := Q_le_64 (by omega)
  have hhx : h * Q l + Q l ≤ Q (l + 1) := by
    rw [Q_succ]
    have := Nat.mul_le_mul_right (Q l) hh
    rw [Nat.succ_mul] at this; exact this
  have hs : shl .u64 (h : Int) (((2 ^ l : Nat) : Int)) = ((h * Q l : Nat) : Int) := by
    unfold shl
    have h64 : IntKind.u64.bits = 64 := rfl
    rw [h64, Int.toNat_natCast, Nat.min_eq_left (by omega)]
    have hc : ((h : Int) * 2 ^ 2 ^ l) = ((h * Q l : Nat) : Int) := by unfold Q; simp
    rw [hc]
    have : h * Q l < 2 ^ 64 := by omega
    generalize h * Q l = z at *
    exact u64_id (by omega) (by omega)
  rw [w64_pred (by omega), if_pos (by omega), shl_u64 l (by omega), if_pos (Int.natCast_nonneg _), hs, or_u64 _ _ (by omega) (by omega)]
  congr 2
  unfold Q at *
  rw [Nat.mul_comm, ← Nat.two_pow_add_eq_or_of_lt hx]
theorem halves_ev {l : Nat} (hl : l ≤ 5) (x : Nat) (hx : x < 2 ^ 64) : Ev (fun k => tower_halves.f k ((l + 1 : Nat) : Int) (x : Int)) (((x / Q l : Nat) : Int), ((x % Q l : Nat) : Int)) := ⟨0, fun k _ => halves_eq k hl x hx⟩
theorem join_ev {l : Nat} (hl : l ≤ 5) (h x : Nat) (hh : h < Q l) (hx : x < Q l) : Ev (fun k => tower_join.f k ((l + 1 : Nat) : Int) (h : Int) (x : Int)) ((h * Q l + x : Nat) : Int) := ⟨0, fun k _ => join_eq k hl h x hh hx⟩
theorem mulX_ev : ∀ (l : Nat), l ≤ 6 → ∀ (x : Nat), x < Q l → Ev (fun k => tower_mulX.f k (l : Int) (x : Int)) ((val (gen l * of l x) : Nat) : Int) := by
  intro l
  induction l with
  | zero =>
    intro _ x hx
    refine Ev.step (fun k => by rw [tower_mulX.f]) (Ev.pos (by rfl) (Ev.ret' ?_))
    rw [gen_zero, one_mul, val_of 0 x hx]
  | succ l ih =>
    intro hl x hx
    have hx64 : x < 2 ^ 64 := Nat.lt_of_lt_of_le hx (Q_le_64 hl)
    have hd : x / Q l < Q l := Nat.div_lt_of_lt_mul (by rw [← Q_succ]; exact hx)
    have hm : x % Q l < Q l := Nat.mod_lt _ (Q_pos l)
    have hQ := Q_lt_64 (n := l) (by omega)
    refine Ev.step (fun k => by rw [tower_mulX.f]) (Ev.neg (by omega) (Ev.bnd (halves_ev (by omega) x hx64) ?_))
    simp only [w64_pred (show l + 1 ≤ 1000 by omega)]
    refine Ev.bnd (ih (by omega) _ hd) ?_
    have hv := val_lt (gen l * of l (x / Q l))
    simp only [xor_u64 _ _ (Nat.lt_trans hm hQ) (Nat.lt_trans hv hQ)]
    refine Ev.bnd (join_ev (by omega) _ _ (xor_lt hm hv) hd) (Ev.ret' ?_)
    congr 1
    rw [val_succ (gen (l + 1) * of (l + 1) x)]
    congr 1
    · congr 1
      have e : (gen (l + 1) * of (l + 1) x).1 = of l (x % Q l) + gen l * of l (x / Q l) := by
        rw [mul_fst, gen_fst, gen_snd, one_mul, zero_mul, one_mul, add_zero]; rfl
      rw [e, val_add, val_of _ _ hm]
    · have e : (gen (l + 1) * of (l + 1) x).2 = of l (x / Q l) := by
        rw [mul_snd, gen_fst, gen_snd, one_mul, zero_mul, zero_add]; rfl
      rw [e, val_of _ _ hd]
theorem karatsuba {n : Nat} (a1 a0 b1 b0 z : T n) : (a1 + a0) * (b1 + b0) + a1 * b1 + a0 * b0 + z = (a1 * b0 + a0 * b1) + z := by
  have : (a1 + a0) * (b1 + b0) + a1 * b1 + a0 * b0 = a1 * b0 + a0 * b1 := by
    simp only [mul_add, add_mul]
    have : ∀ p q r s : T n, p + q + (r + s) + p + s = q + r := fun p q r s => by
      rw [add_comm p q, add_assoc, add_assoc, add_assoc]
      rw [show p + (r + s + (p + s)) = (p + p) + (r + (s + s)) by simp only [add_assoc, add_left_comm, add_comm]]
      rw [add_self, add_self, zero_add, add_zero]
    rw [show a1 * b1 + a0 * b1 + (a1 * b0 + a0 * b0) = a1 * b1 + a0 * b1 + (a1 * b0 + a0 * b0) from rfl, this, add_comm]
  rw [this]
theorem mul_ev : ∀ (l : Nat), l ≤ 6 → ∀ (x y : Nat), x < Q l → y < Q l → Ev (fun k => tower_mul.f k (l : Int) (x : Int) (y : Int)) ((val (of l x * of l y) : Nat) : Int) := by
  intro l
  have hz : ∀ (l : Nat), l ≤ 6 → ∀ (x y : Nat), x < Q l → y < Q l → (l = 0 ∨ x = 0 ∨ y = 0) → Ev (fun k => tower_mul.j2 k (x : Int) (y : Int)) ((val (of l x * of l y) : Nat) : Int) := by
    intro l hl x y hx hy h
    have hQ := Q_le_64 hl
    refine Ev.step (fun k => by rw [tower_mul.j2]) (Ev.ret' ?_)
    rw [and_u64 x y (by omega) (by omega)]
    have hxy : x &&& y < 2 ^ 64 := Nat.and_lt_two_pow _ (by omega)
    rw [show (1 : Int) = ((1 : Nat) : Int) from rfl, and_u64 _ 1 hxy (by decide)]
    congr 1
    rcases h with rfl | rfl | rfl
    · have h1 : x < 2 := hx
      have h2 : y < 2 := hy
      rcases (by omega : x = 0 ∨ x = 1) with rfl | rfl <;> rcases (by omega : y = 0 ∨ y = 1) with rfl | rfl <;> rfl
    · rw [of_zero, zero_mul, val_zero]; simp
    · rw [of_zero, mul_zero, val_zero]; simp
  induction l with
  | zero =>
    intro hl x y hx hy
    exact Ev.step (fun k => by rw [tower_mul.f]) (Ev.pos (by rfl) (hz 0 hl x y hx hy (Or.inl rfl)))
  | succ l ih =>
    intro hl x y hx hy
    refine Ev.step (fun k => by rw [tower_mul.f]) (Ev.neg (by omega) ?_)
    by_cases hx0 : x = 0
    · exact Ev.pos (by omega) (hz (l + 1) hl x y hx hy (Or.inr (Or.inl hx0)))
    refine Ev.neg (by omega) ?_
    by_cases hy0 : y = 0
    · exact Ev.pos (by omega) (hz (l + 1) hl x y hx hy (Or.inr (Or.inr hy0)))
    refine Ev.neg (by omega) ?_
    have hQ := Q_lt_64 (n := l) (by omega)
    have hx64 : x < 2 ^ 64 := Nat.lt_of_lt_of_le hx (Q_le_64 hl)
    have hy64 : y < 2 ^ 64 := Nat.lt_of_lt_of_le hy (Q_le_64 hl)
    have hxd : x / Q l < Q l := Nat.div_lt_of_lt_mul (by rw [← Q_succ]; exact hx)
    have hxm : x % Q l < Q l := Nat.mod_lt _ (Q_pos l)
    have hyd : y / Q l < Q l := Nat.div_lt_of_lt_mul (by rw [← Q_succ]; exact hy)
    have hym : y % Q l < Q l := Nat.mod_lt _ (Q_pos l)
    have hl5 : l ≤ 5 := by omega
    refine Ev.bnd (halves_ev hl5 x hx64) (Ev.bnd (halves_ev hl5 y hy64) ?_)
    simp only [w64_pred (show l + 1 ≤ 1000 by omega)]
    refine Ev.bnd (ih (by omega) _ _ hxd hyd) (Ev.bnd (ih (by omega) _ _ hxm hym) ?_)
    simp only [xor_u64 _ _ (Nat.lt_trans hxd hQ) (Nat.lt_trans hxm hQ), xor_u64 _ _ (Nat.lt_trans hyd hQ) (Nat.lt_trans hym hQ)]
    refine Ev.bnd (ih (by omega) _ _ (xor_lt hxd hxm) (xor_lt hyd hym)) ?_
    have v1 := val_lt (of l (x / Q l) * of l (y / Q l))
    have v2 := val_lt (of l (x % Q l) * of l (y % Q l))
    have v3 := val_lt (of l (x / Q l ^^^ x % Q l) * of l (y / Q l ^^^ y % Q l))
    refine Ev.bnd (mulX_ev l (by omega) _ v1) ?_
    have v4 := val_lt (gen l * of l (val (of l (x / Q l) * of l (y / Q l))))
    simp only [xor_u64 _ _ (Nat.lt_trans v3 hQ) (Nat.lt_trans v1 hQ), xor_u64 _ _ (Nat.lt_trans (xor_lt v3 v1) hQ) (Nat.lt_trans v2 hQ), xor_u64 _ _ (Nat.lt_trans (xor_lt (xor_lt v3 v1) v2) hQ) (Nat.lt_trans v4 hQ), xor_u64 _ _ (Nat.lt_trans v2 hQ) (Nat.lt_trans v1 hQ)]
    refine Ev.bnd (join_ev (by omega) _ _ (xor_lt (xor_lt (xor_lt v3 v1) v2) v4) (xor_lt v2 v1)) (Ev.ret' ?_)
    congr 1
    rw [val_succ (of (l + 1) x * of (l + 1) y)]
    congr 1
    · congr 1
      rw [mul_fst, of_succ, of_succ, mk_fst, mk_snd, mk_fst, mk_snd, ← karatsuba, val_add, val_add, val_add, of_xor hxd hxm, of_xor hyd hym, of_val]
    · rw [mul_snd, of_succ, of_succ, mk_fst, mk_snd, mk_fst, mk_snd, val_add]
end Go.Proofs.Ytfmjodlcjaflfaa.Sp
namespace Go.Proofs.Ytfmjodlcjaflfaa.Sp
open Go.Proofs.Ytfmjodlcjaflfaa.V.B Go.RowKit Go.Proofs.Ytfmjodlcjaflfaa.B Go.Proofs.Ytfmjodlcjaflfaa.V.B.Ar Go.Proofs.Ytfmjodlcjaflfaa.V.B.Tw
set_option linter.unusedVariables false
set_option linter.unusedSimpArgs false
abbrev E := T 7
/-- The higher and the lower word. -/
def hi (x : E) : Int := ((val x.1 : Nat) : Int)
def lo (x : E) : Int := ((val x.2 : Nat) : Int)
def el (h l : Int) : E := mk (of 6 h.toNat) (of 6 l.toNat)
theorem hi_el {h l : Int} (h0 : 0 ≤ h) (h1 : h < 18446744073709551616) : hi (el h l) = h := by
  unfold hi el; rw [mk_fst, val_of 6 _ (by rw [Q_six]; omega)]; omega
theorem lo_el {h l : Int} (h0 : 0 ≤ l) (h1 : l < 18446744073709551616) : lo (el h l) = l := by
  unfold lo el; rw [mk_snd, val_of 6 _ (by rw [Q_six]; omega)]; omega
theorem hl_inj {x y : E} (h : hi x = hi y) (l : lo x = lo y) : x = y := by
  unfold hi lo at *; exact ext (val_inj (by omega)) (val_inj (by omega))
theorem hi_zero : hi 0 = 0 := by unfold hi; rw [zero_fst, val_zero]; rfl
theorem lo_zero : lo 0 = 0 := by unfold lo; rw [zero_snd, val_zero]; rfl
theorem hi_one : hi 1 = 0 := by unfold hi; rw [one_fst, val_zero]; rfl
theorem lo_one : lo 1 = 1 := by unfold lo; rw [one_snd, val_one]; rfl
theorem hi_bd (x : E) : 0 ≤ hi x ∧ hi x < 18446744073709551616 := by
  unfold hi; have := val_lt x.1; rw [Q_six] at this; omega
theorem lo_bd (x : E) : 0 ≤ lo x ∧ lo x < 18446744073709551616 := by
  unfold lo; have := val_lt x.2; rw [Q_six] at this; omega
theorem val_hl (x : E) : val x = (hi x).toNat * 18446744073709551616 + (lo x).toNat := by
  unfold hi lo; rw [val_succ, Q_six]; simp
theorem eq_zero_iff (x : E) : x = 0 ↔ hi x = 0 ∧ lo x = 0 := ⟨fun h => by rw [h]; exact ⟨hi_zero, lo_zero⟩, fun h => hl_inj (h.1.trans hi_zero.symm) (h.2.trans lo_zero.symm)⟩
theorem xor_hi (x y : E) : Go.bits .xor .u64 (hi x) (hi y) = hi (x + y) := by
  unfold hi; rw [xor_u64 _ _ (val_lt x.1) (val_lt y.1), add_fst, val_add]
theorem xor_lo (x y : E) : Go.bits .xor .u64 (lo x) (lo y) = lo (x + y) := by
  unfold lo; rw [xor_u64 _ _ (val_lt x.2) (val_lt y.2), add_snd, val_add]
/-- Of a level. -/
def InL (l : Nat) (x : E) : Prop := val x < Q l
instance (l : Nat) (x : E) : Decidable (InL l x) := by unfold InL; infer_instance
def OfS (L : Int) (x : E) : Prop := 0 ≤ L ∧ L ≤ 7 ∧ InL L.toNat x
instance (L : Int) (x : E) : Decidable (OfS L x) := by unfold OfS; infer_instance
theorem inL_seven (x : E) : InL 7 x := val_lt x
theorem inL_zero (l : Nat) : InL l 0 := by unfold InL; rw [val_zero]; exact Q_pos l
theorem inL_one (l : Nat) : InL l 1 := by unfold InL; rw [val_one]; exact Nat.lt_of_lt_of_le (by decide : 1 < Q 0) (Q_mono (Nat.zero_le _))
theorem inL_mono {l m : Nat} (h : l ≤ m) {x : E} (hx : InL l x) : InL m x := Nat.lt_of_lt_of_le hx (Q_mono h)
theorem inL_add {l : Nat} {x y : E} (hx : InL l x) (hy : InL l y) : InL l (x + y) := by
  unfold InL at *; rw [val_add]; exact xor_lt hx hy
theorem inL_mul {l : Nat} (hl : l ≤ 7) {x y : E} (hx : InL l x) (hy : InL l y) : InL l (x * y) := by
  unfold InL at *; have := val_mul_lt hl hx hy; rwa [of_val, of_val] at this
theorem inL_six {x : E} : InL 6 x ↔ hi x = 0 := by
  unfold InL; have h := val_hl x; have h1 := hi_bd x; have h2 := lo_bd x
  rw [Q_six, h]; constructor <;> intro g <;> omega
theorem inL_low {l : Nat} (hl : l ≤ 6) {x : E} : InL l x ↔ hi x = 0 ∧ (lo x).toNat < Q l := by
  constructor
  · intro h
    have h6 := inL_six.1 (inL_mono hl h)
    refine ⟨h6, ?_⟩
    unfold InL at h; rw [val_hl, h6] at h; simpa using h
  · rintro ⟨h1, h2⟩
    unfold InL; rw [val_hl, h1]; simpa using h2
/-- The program's element, the document's. -/
@[reducible] def toS (x : E) : S34 := ⟨hi x, lo x⟩
@[reducible] def toR (x : E) : S39 := ⟨hi x, lo x⟩
def WfS (e : S34) : Prop := (0 ≤ e.f0 ∧ e.f0 < 18446744073709551616) ∧ (0 ≤ e.f1 ∧ e.f1 < 18446744073709551616)
theorem of_ev (L : Int) (x : E) : Ev (fun k => octet_Of.f k L (toS x)) (decide (OfS L x)) := by
  unfold octet_Of.f
  by_cases h0 : L < 0
  · refine Ev.pos h0 (Ev.ret' ?_)
    symm; rw [decide_eq_false_iff_not]; rintro ⟨h, _⟩; omega
  refine Ev.neg h0 ?_
  by_cases h7 : L > 7
  · refine Ev.pos h7 (Ev.ret' ?_)
    symm; rw [decide_eq_false_iff_not]; rintro ⟨_, h, _⟩; omega
  refine Ev.neg h7 ?_
  obtain ⟨l, rfl⟩ := Int.eq_ofNat_of_zero_le (show 0 ≤ L by omega)
  have hS : OfS (l : Int) x ↔ InL l x := by
    unfold OfS; rw [Int.toNat_natCast]; exact ⟨fun h => h.2.2, fun h => ⟨by omega, by omega, h⟩⟩
  by_cases c7 : (l : Int) = 7
  · refine Ev.pos c7 (Ev.ret' ?_)
    have : l = 7 := by omega
    subst this
    symm; rw [decide_eq_true_eq, hS]; exact inL_seven x
  refine Ev.neg c7 ?_
  by_cases c6 : (l : Int) = 6
  · refine Ev.pos c6 (Ev.ret' ?_)
    have : l = 6 := by omega
    subst this
    rw [decide_eq_decide, hS]; exact inL_six.symm
  refine Ev.neg c6 ?_
  have hl5 : l ≤ 5 := by omega
  have hl := inL_low (l := l) (by omega) (x := x)
  by_cases c0 : hi x = 0
  · have h32 := two_pow_le_32 hl5
    refine Ev.pos c0 (Ev.pos (Int.natCast_nonneg _) (Ev.pos (by rw [shl_u64 l (by omega)]; exact Int.natCast_nonneg _) (Ev.ret' ?_)))
    show decide (shr .u64 (lo x) _ = 0) = _
    have hlo : lo x = (((lo x).toNat : Nat) : Int) := by have := lo_bd x; omega
    rw [shl_u64 l (by omega), hlo, shr_u64 _ (2 ^ l) (by omega)]
    rw [decide_eq_decide, hS, hl]
    have hq : (lo x).toNat / 2 ^ 2 ^ l = 0 ↔ (lo x).toNat < Q l := by
      rw [Nat.div_eq_zero_iff]; unfold Q
      have := Nat.two_pow_pos (2 ^ l)
      omega
    constructor
    · intro h; exact ⟨c0, hq.1 (by exact_mod_cast h)⟩
    · rintro ⟨_, h⟩; exact_mod_cast hq.2 h
  · refine Ev.neg c0 (Ev.ret' ?_)
    symm; rw [decide_eq_false_iff_not, hS, hl]; exact fun h => c0 h.1
theorem Add_ev (x y : E) : Ev (fun k => tower_Add.f k (toS x) (toS y)) (toS (x + y)) := ⟨0, fun k _ => by
  show some (⟨bits .xor .u64 (hi x) (hi y), bits .xor .u64 (lo x) (lo y)⟩ : S34) = _
  rw [xor_hi, xor_lo]⟩
theorem One_ev : Ev (fun k => tower_One.f k) (toS 1) := ⟨0, fun k _ => by unfold tower_One.f toS; rw [hi_one, lo_one]⟩
theorem toS_zero : toS 0 = z34 := by unfold toS; rw [hi_zero, lo_zero]; rfl
theorem Mul_out {L : Int} {x y : E} (h : ¬ (OfS L x ∧ OfS L y)) : Ev (fun k => tower_Mul.f k L (toS x) (toS y)) (toS 0) := by
  rw [toS_zero]
  unfold tower_Mul.f
  refine Ev.bnd (of_ev L x) ?_
  by_cases c : OfS L x
  · rw [decide_eq_true c]
    refine Ev.neg (by decide) (Ev.bnd (of_ev L y) ?_)
    rw [decide_eq_false (fun g => h ⟨c, g⟩)]
    exact Ev.pos rfl (Ev.ret _)
  · rw [decide_eq_false c]
    exact Ev.pos rfl (Ev.ret _)
theorem Mul_ev {l : Nat} (hl : l ≤ 7) {x y : E} (hx : InL l x) (hy : InL l y) : Ev (fun k => tower_Mul.f k (l : Int) (toS x) (toS y)) (toS (x * y)) := by
  unfold tower_Mul.f
  have hS : ∀ z, InL l z → OfS (l : Int) z := fun z hz => ⟨by omega, by omega, by rw [Int.toNat_natCast]; exact hz⟩
  refine Ev.bnd (of_ev (l : Int) x) ?_
  rw [decide_eq_true (hS x hx)]
  refine Ev.neg (by decide) (Ev.bnd (of_ev (l : Int) y) ?_)
  rw [decide_eq_true (hS y hy)]
  refine Ev.neg (by decide) ?_
  by_cases c : l ≤ 6
  · refine Ev.pos (by omega) ?_
    have ex := (inL_low c).1 hx
    have ey := (inL_low c).1 hy
    have e1 : lo x = (((lo x).toNat : Nat) : Int) := by have := lo_bd x; omega
    have e2 : lo y = (((lo y).toNat : Nat) : Int) := by have := lo_bd y; omega
    have ev := mul_ev l c (lo x).toNat (lo y).toNat ex.2 ey.2
    rw [← e1, ← e2] at ev
    refine Ev.bnd ev (Ev.ret' ?_)
    unfold toS
    have hz := (inL_low c).1 (inL_mul hl hx hy)
    have e3 : lo (x * y) = (((lo (x * y)).toNat : Nat) : Int) := by have := lo_bd (x * y); omega
    rw [hz.1, e3]
    congr 2
    have vx : val x = (lo x).toNat := by rw [val_hl, ex.1]; simp
    have vy : val y = (lo y).toNat := by rw [val_hl, ey.1]; simp
    have vz : val (x * y) = (lo (x * y)).toNat := by rw [val_hl, hz.1]; simp
    rw [← vz, ← vx, ← vy, ← val_mul_level hl hx hy, of_val, of_val]
  · have : l = 7 := by omega
    subst this
    refine Ev.neg (by decide) ?_
    have v1 := val_lt x.1
    have v2 := val_lt x.2
    have v3 := val_lt y.1
    have v4 := val_lt y.2
    have m1 := mul_ev 6 (by decide) _ _ v1 v3
    have m2 := mul_ev 6 (by decide) _ _ v2 v4
    have m3 := mul_ev 6 (by decide) _ _ (xor_lt v1 v2) (xor_lt v3 v4)
    rw [of_val, of_val] at m1 m2
    rw [← val_add, ← val_add, of_val, of_val] at m3
    have m4 := mulX_ev 6 (by decide) _ (val_lt (x.1 * y.1))
    rw [of_val] at m4
    refine Ev.bnd m1 (Ev.bnd m2 ?_)
    have e1 : Go.bits .xor .u64 (hi x) (lo x) = ((val (x.1 + x.2) : Nat) : Int) := by unfold hi lo; rw [xor_u64 _ _ v1 v2, val_add]
    have e2 : Go.bits .xor .u64 (hi y) (lo y) = ((val (y.1 + y.2) : Nat) : Int) := by unfold hi lo; rw [xor_u64 _ _ v3 v4, val_add]
    simp only [toS, e1, e2]
    refine Ev.bnd m3 (Ev.bnd m4 (Ev.ret' ?_))
    rw [xor_u64 _ _ (val_lt _) (val_lt _), ← val_add, xor_u64 _ _ (val_lt _) (val_lt _), ← val_add, xor_u64 _ _ (val_lt _) (val_lt _), ← val_add, xor_u64 _ _ (val_lt _) (val_lt _), ← val_add, karatsuba]
    rfl
theorem toS_f0 (x : E) : (toS x).f0 = hi x := rfl
theorem toS_f1 (x : E) : (toS x).f1 = lo x := rfl
theorem toR_f0 (x : E) : (toR x).f0 = hi x := rfl
theorem toR_f1 (x : E) : (toR x).f1 = lo x := rfl
theorem toR_zero : toR 0 = z39 := by unfold toR; rw [hi_zero, lo_zero]; rfl
theorem toS_el (e : S34) (h : WfS e) : toS (el e.f0 e.f1) = e := by unfold toS; rw [hi_el h.1.1 h.1.2, lo_el h.2.1 h.2.2]
theorem toS_inj {x y : E} (h : toS x = toS y) : x = y := by
  unfold toS at h; injection h with h1 h2; exact hl_inj h1 h2
theorem wf_of {e : S34} (h : (Lit.int .u64 e.f0).wf = true ∧ (Lit.int .u64 e.f1).wf = true) : WfS e := ⟨wf_u64 h.1, wf_u64 h.2⟩
/-- A list that came in is a list of elements. -/
theorem list_of (l : List S34) (h : ∀ e ∈ l, ((Lit.int .u64 e.f0).wf = true) ∧ ((Lit.int .u64 e.f1).wf = true)) : ∃ X : List E, l = X.map toS := by
  refine ⟨l.map fun e => el e.f0 e.f1, ?_⟩
  rw [List.map_map]
  conv => lhs; rw [← List.map_id l]
  apply List.map_congr_left
  intro e he
  exact (toS_el e (wf_of (h e he))).symm
theorem elem_of (e : S34) (h : ((Lit.int .u64 e.f0).wf = true) ∧ ((Lit.int .u64 e.f1).wf = true)) : ∃ x : E, e = toS x := ⟨_, (toS_el e (wf_of h)).symm⟩
theorem rdS (X : List E) (i : Nat) : rd34 (X.map toS) (i : Int) = toS (X.getD i 0) := by
  unfold rd34; rw [Int.toNat_natCast, ← toS_zero, List.getD_eq_getElem?_getD, List.getD_eq_getElem?_getD, List.getElem?_map]
  cases X[i]? <;> rfl
theorem rdR (X : List E) (i : Nat) : rd39 (X.map toR) (i : Int) = toR (X.getD i 0) := by
  unfold rd39; rw [Int.toNat_natCast, ← toR_zero, List.getD_eq_getElem?_getD, List.getD_eq_getElem?_getD, List.getElem?_map]
  cases X[i]? <;> rfl
end Go.Proofs.Ytfmjodlcjaflfaa.Sp
namespace Go.Proofs.Ytfmjodlcjaflfaa.Sp
open Go.Proofs.Ytfmjodlcjaflfaa.V.B Go.RowKit Go.Proofs.Ytfmjodlcjaflfaa.B Go.Proofs.Ytfmjodlcjaflfaa.V.B.Ar Go.Proofs.Ytfmjodlcjaflfaa.V.B.Tw
set_option linter.unusedVariables false
set_option linter.unusedSimpArgs false
theorem square_ev : ∀ (l : Nat), l ≤ 6 → ∀ (x : Nat), x < Q l → Ev (fun k => tower_square.f k (l : Int) (x : Int)) ((val (of l x * of l x) : Nat) : Int) := by
  intro l
  induction l with
  | zero =>
    intro _ x hx
    have e : val (of 0 x * of 0 x) = x := by
      have h1 : x < 2 := hx
      rcases (by omega : x = 0 ∨ x = 1) with rfl | rfl <;> rfl
    refine Ev.step (fun k => by rw [tower_square.f]) (Ev.pos (by rfl) (Ev.ret' ?_))
    rw [e]
  | succ l ih =>
    intro hl x hx
    have hQ := Q_lt_64 (n := l) (by omega)
    have hl5 : l ≤ 5 := by omega
    have hx64 : x < 2 ^ 64 := Nat.lt_of_lt_of_le hx (Q_le_64 hl)
    have hxd : x / Q l < Q l := Nat.div_lt_of_lt_mul (by rw [← Q_succ]; exact hx)
    have hxm : x % Q l < Q l := Nat.mod_lt _ (Q_pos l)
    have v1 := val_lt (of l (x / Q l) * of l (x / Q l))
    have v2 := val_lt (of l (x % Q l) * of l (x % Q l))
    have v3 := val_lt (gen l * of l (val (of l (x / Q l) * of l (x / Q l))))
    refine Ev.step (fun k => by rw [tower_square.f]) (Ev.neg (by omega) (Ev.bnd (halves_ev hl5 x hx64) ?_))
    simp only [w64_pred (show l + 1 ≤ 1000 by omega)]
    refine Ev.bnd (ih (by omega) _ hxd) (Ev.bnd (mulX_ev l (by omega) _ v1) (Ev.bnd (ih (by omega) _ hxm) ?_))
    simp only [xor_u64 _ _ (Nat.lt_trans v2 hQ) (Nat.lt_trans v1 hQ)]
    refine Ev.bnd (join_ev hl5 _ _ v3 (xor_lt v2 v1)) (Ev.ret' ?_)
    congr 1
    rw [val_succ (of (l + 1) x * of (l + 1) x)]
    congr 1
    · congr 1
      rw [mul_fst, of_succ, mk_fst, mk_snd, of_val, mul_comm (of l (x / Q l)) (of l (x % Q l)), add_self, zero_add]
    · rw [mul_snd, of_succ, mk_fst, mk_snd, val_add]
theorem invT_succ {n : Nat} (z : T (n + 1)) : invT z = mk (z.1 * invT (nrm z)) (othr z * invT (nrm z)) := rfl
theorem inv_ev : ∀ (l : Nat), l ≤ 6 → ∀ (x : Nat), x < Q l → Ev (fun k => tower_inv.f k (l : Int) (x : Int)) ((val (invT (of l x)) : Nat) : Int) := by
  intro l
  induction l with
  | zero =>
    intro _ x hx
    refine Ev.step (fun k => by rw [tower_inv.f]) (Ev.pos (by rfl) (Ev.ret' ?_))
    show _ = ((val (of 0 x) : Nat) : Int)
    rw [val_of 0 x hx]
  | succ l ih =>
    intro hl x hx
    have hQ := Q_lt_64 (n := l) (by omega)
    have hl5 : l ≤ 5 := by omega
    have hl6 : l ≤ 6 := by omega
    have hx64 : x < 2 ^ 64 := Nat.lt_of_lt_of_le hx (Q_le_64 hl)
    have hxd : x / Q l < Q l := Nat.div_lt_of_lt_mul (by rw [← Q_succ]; exact hx)
    have hxm : x % Q l < Q l := Nat.mod_lt _ (Q_pos l)
    have eo : othr (of (l + 1) x) = of l (x % Q l ^^^ val (gen l * of l (x / Q l))) := by
      unfold othr; rw [of_xor hxm (val_lt _), of_val]; rfl
    have en : nrm (of (l + 1) x) = of l (val (of l (x % Q l) * of l (x % Q l ^^^ val (gen l * of l (x / Q l)))) ^^^ val (of l (x / Q l) * of l (x / Q l))) := by
      unfold nrm; rw [of_xor (val_lt _) (val_lt _), of_val, of_val, eo]; rfl
    have ex : ∀ y, (of (l + 1) x).1 * y = of l (x / Q l) * y := fun y => rfl
    have v1 := val_lt (gen l * of l (x / Q l))
    have hw := xor_lt hxm v1
    have v2 := val_lt (of l (x % Q l) * of l (x % Q l ^^^ val (gen l * of l (x / Q l))))
    have v3 := val_lt (of l (x / Q l) * of l (x / Q l))
    refine Ev.step (fun k => by rw [tower_inv.f]) (Ev.neg (by omega) (Ev.bnd (halves_ev hl5 x hx64) ?_))
    simp only [w64_pred (show l + 1 ≤ 1000 by omega)]
    refine Ev.bnd (mulX_ev l hl6 _ hxd) ?_
    simp only [xor_u64 _ _ (Nat.lt_trans hxm hQ) (Nat.lt_trans v1 hQ)]
    refine Ev.bnd (mul_ev l hl6 _ _ hxm hw) (Ev.bnd (square_ev l hl6 _ hxd) ?_)
    simp only [xor_u64 _ _ (Nat.lt_trans v2 hQ) (Nat.lt_trans v3 hQ)]
    refine Ev.bnd (ih hl6 _ (xor_lt v2 v3)) ?_
    rw [← en]
    have v4 := val_lt (invT (nrm (of (l + 1) x)))
    refine Ev.bnd (mul_ev l hl6 _ _ hxd v4) (Ev.bnd (mul_ev l hl6 _ _ hw v4) ?_)
    refine Ev.bnd (join_ev hl5 _ _ (val_lt _) (val_lt _)) (Ev.ret' ?_)
    congr 1
    rw [val_succ (invT (of (l + 1) x)), invT_succ, mk_fst, mk_snd, ex, eo, of_val]
theorem inL_inv {l : Nat} (hl : l ≤ 7) {x : E} (hx : InL l x) : InL l (invT x) := val_inv_lt hl hx
theorem inL_toS {l : Nat} (hl : l ≤ 6) {x : E} (h : InL l x) : toS x = ⟨0, ((val x : Nat) : Int)⟩ := by
  have h6 := inL_six.1 (inL_mono hl h)
  have e := val_hl x
  have hb := lo_bd x
  rw [h6] at e
  have e3 : lo x = ((val x : Nat) : Int) := by omega
  unfold toS; rw [h6, e3]
theorem ofS_in {l : Nat} (hl : l ≤ 7) {x : E} (h : InL l x) : OfS (l : Int) x := ⟨by omega, by omega, by rw [Int.toNat_natCast]; exact h⟩
theorem Square_ev {l : Nat} (hl : l ≤ 7) {x : E} (hx : InL l x) : Ev (fun k => tower_Square.f k (l : Int) (toS x)) (toS (x * x)) := by
  unfold tower_Square.f
  refine Ev.bnd (of_ev (l : Int) x) ?_
  rw [decide_eq_true (ofS_in hl hx)]
  refine Ev.neg (by decide) ?_
  by_cases c : l ≤ 6
  · have e := square_ev l c (val x) hx
    rw [← val_mul_level hl hx hx, of_val] at e
    rw [inL_toS c hx]
    refine Ev.pos (by omega) (Ev.bnd e (Ev.ret' ?_))
    rw [inL_toS c (inL_mul hl hx hx)]
  · have : l = 7 := by omega
    subst this
    have v1 := val_lt x.1
    have v2 := val_lt x.2
    have m1 := square_ev 6 (by decide) _ v1
    have m2 := square_ev 6 (by decide) _ v2
    rw [of_val] at m1 m2
    have m4 := mulX_ev 6 (by decide) _ (val_lt (x.1 * x.1))
    rw [of_val] at m4
    refine Ev.neg (by decide) (Ev.bnd m1 (Ev.bnd m4 (Ev.bnd m2 (Ev.ret' ?_))))
    rw [xor_u64 _ _ (val_lt _) (val_lt _), ← val_add]
    have e1 : (x * x).1 = gen 6 * (x.1 * x.1) := by rw [mul_fst, mul_comm x.1 x.2, add_self, zero_add]
    unfold toS hi lo
    rw [e1, mul_snd]
theorem Inv_ev {l : Nat} (hl : l ≤ 7) {x : E} (hx : InL l x) : Ev (fun k => tower_Inv.f k (l : Int) (toS x)) (toS (invT x)) := by
  unfold tower_Inv.f
  refine Ev.bnd (of_ev (l : Int) x) ?_
  rw [decide_eq_true (ofS_in hl hx)]
  refine Ev.neg (by decide) ?_
  by_cases c : l ≤ 6
  · have e := inv_ev l c (val x) hx
    have g : val (invT (of l (val x))) = val (invT x) := by
      rw [← val_inv_of hl hx, of_val]
    rw [g] at e
    rw [inL_toS c hx]
    refine Ev.pos (by omega) (Ev.bnd e (Ev.ret' ?_))
    rw [inL_toS c (inL_inv hl hx)]
  · have : l = 7 := by omega
    subst this
    have v1 := val_lt x.1
    have v2 := val_lt x.2
    have v3 := val_lt (gen 6 * x.1)
    have m4 := mulX_ev 6 (by decide) _ v1
    rw [of_val] at m4
    have eo : (val x.2 ^^^ val (gen 6 * x.1)) = val (othr x) := by rw [← val_add]; rfl
    have m5 := mul_ev 6 (by decide) _ _ v2 (val_lt (othr x))
    rw [of_val, of_val] at m5
    have m6 := square_ev 6 (by decide) _ v1
    rw [of_val] at m6
    have en : (val (x.2 * othr x) ^^^ val (x.1 * x.1)) = val (nrm x) := by rw [← val_add]; rfl
    have m7 := inv_ev 6 (by decide) _ (val_lt (nrm x))
    rw [of_val] at m7
    have m8 := mul_ev 6 (by decide) _ _ v1 (val_lt (invT (nrm x)))
    rw [of_val, of_val] at m8
    have m9 := mul_ev 6 (by decide) _ _ (val_lt (othr x)) (val_lt (invT (nrm x)))
    rw [of_val, of_val] at m9
    refine Ev.neg (by decide) (Ev.bnd m4 ?_)
    simp only [toS, lo, hi, xor_u64 _ _ v2 v3, eo]
    refine Ev.bnd m5 (Ev.bnd m6 ?_)
    simp only [xor_u64 _ _ (val_lt (x.2 * othr x)) (val_lt (x.1 * x.1)), en]
    refine Ev.bnd m7 (Ev.bnd m8 (Ev.bnd m9 (Ev.ret' ?_)))
    rw [invT_succ]
    rfl
end Go.Proofs.Ytfmjodlcjaflfaa.Sp
namespace Go.Proofs.Ytfmjodlcjaflfaa.Sp
open Go.Proofs.Ytfmjodlcjaflfaa.V.B Go.RowKit Go.Proofs.Ytfmjodlcjaflfaa.B Go.Proofs.Ytfmjodlcjaflfaa.V.B.Ar Go.Proofs.Ytfmjodlcjaflfaa.V.B.Tw
set_option linter.unusedVariables false
set_option linter.unusedSimpArgs false
/-- Is there such a level? -/
def LvS (L : Int) : Prop := 0 ≤ L ∧ L ≤ 7
instance (L : Int) : Decidable (LvS L) := by unfold LvS; infer_instance
theorem wide_out {L : Int} (h : ¬ LvS L) : Ev (fun k => octet_Wide.f k L) 0 := by
  unfold octet_Wide.f
  by_cases h0 : L < 0
  · exact Ev.pos h0 (Ev.ret _)
  · exact Ev.neg h0 (Ev.pos (by unfold LvS at h; omega) (Ev.ret _))
theorem wide_in {L : Int} (h : LvS L) : ∃ v, v ≠ 0 ∧ Ev (fun k => octet_Wide.f k L) v := by
  obtain ⟨h0, h7⟩ := h
  obtain ⟨l, rfl⟩ := Int.eq_ofNat_of_zero_le h0
  have hstep : ∀ {g : Nat → Option Int} {v : Int}, Ev g v → Ev (fun k => if (l : Int) < 0 then some 0 else if (l : Int) > 7 then some 0 else g k) v := fun hv => Ev.neg (by omega) (Ev.neg (by omega) hv)
  by_cases c : (l : Int) ≤ 3
  · exact ⟨1, by decide, hstep (Ev.pos c (Ev.ret _))⟩
  · have e : wrap64 ((l : Int) - 3) = ((l - 3 : Nat) : Int) := by rw [w64_id (by omega) (by omega)]; omega
    refine ⟨((2 ^ (l - 3) : Nat) : Int), by have := Nat.two_pow_pos (l - 3); omega, hstep (Ev.neg c ?_)⟩
    rw [e]
    exact Ev.pos (Int.natCast_nonneg _) (Ev.ret' (shl_i64 (l - 3) (by omega)))
theorem rdL (l : Nat) (h : l ≤ 7) : rdI ([1, 2, 4, 8, 16, 32, 64, 128] : List Int) (l : Int) = ((2 ^ l : Nat) : Int) := by
  have : ∀ m, m ≤ 7 → rdI ([1, 2, 4, 8, 16, 32, 64, 128] : List Int) ((m : Nat) : Int) = ((2 ^ m : Nat) : Int) := by decide
  exact this l h
theorem and_one_u64 (a n : Nat) (ha : a < 2 ^ 64) (hn : n ≤ 64) : Go.bits .and .u64 (shr .u64 (a : Int) (n : Int)) 1 = if a.testBit n then 1 else 0 := by
  rw [shr_u64 a n hn]
  have hd : a / 2 ^ n < 2 ^ 64 := Nat.lt_of_le_of_lt (Nat.div_le_self _ _) ha
  rw [show (1 : Int) = ((1 : Nat) : Int) from rfl, and_u64 _ 1 hd (by decide), Nat.and_one_is_mod, Nat.testBit_eq_decide_div_mod_eq]
  by_cases c : a / 2 ^ n % 2 = 1
  · rw [c]; simp
  · rw [show a / 2 ^ n % 2 = 0 by omega]; simp
/-- All of a level. -/
def AllS (L : Int) (X : List E) : Prop := ∀ x ∈ X, OfS L x
instance (L : Int) (X : List E) : Decidable (AllS L X) := by unfold AllS; infer_instance
theorem allS_drop {L : Int} {X : List E} {i : Nat} (h : i < X.length) : AllS L (X.drop i) ↔ OfS L (X.getD i 0) ∧ AllS L (X.drop (i + 1)) := by
  rw [List.drop_eq_getElem_cons h]
  have : X.getD i 0 = X[i] := by rw [List.getD_eq_getElem?_getD, List.getElem?_eq_getElem h]; rfl
  rw [this]
  exact List.forall_mem_cons
theorem map_take_succ {α β : Type} (f : α → β) (X : List α) (d : α) (i : Nat) (h : i < X.length) : (X.take (i + 1)).map f = (X.take i).map f ++ [f (X.getD i d)] := by
  rw [List.take_succ_eq_append_getElem h, List.map_append]
  have : X.getD i d = X[i] := by rw [List.getD_eq_getElem?_getD, List.getElem?_eq_getElem h]; rfl
  rw [this]; rfl
theorem Ref_l0 (X : List E) (hX : X.length ≤ 1000000) : ∀ (d i : Nat), i + d = X.length → Ev (fun k => steeplelaw01_Ref.l3 k (X.map toS) (i : Int) ((X.take i).map toR)) (X.map toR) := by
  intro d
  induction d with
  | zero =>
    intro i hi
    refine Ev.step (fun k => by rw [steeplelaw01_Ref.l3]) (Ev.neg (by rw [List.length_map]; omega) (Ev.ret' ?_))
    rw [List.take_of_length_le (by omega)]
  | succ d ih =>
    intro i hi
    have hi' : i < X.length := by omega
    refine Ev.step (fun k => by rw [steeplelaw01_Ref.l3]) (Ev.pos (by rw [List.length_map]; omega) (Ev.pos (Int.natCast_nonneg _) (Ev.pos (by rw [List.length_map]; omega) (Ev.pos (by rw [List.length_map, List.length_take, List.length_singleton]; omega) ?_))))
    simp only [rdS, toS_f0, toS_f1, w64_succ hi' (show X.length ≤ 4611686018427387904 by omega)]
    have hih := ih (i + 1) (by omega)
    rw [map_take_succ toR X 0 i hi'] at hih
    exact hih
theorem Ref_ev (X : List E) (hX : X.length ≤ 1000000) : Ev (fun k => steeplelaw01_Ref.f k (X.map toS)) (X.map toR) := Ref_l0 X hX X.length 0 (by omega)
/-- The same element? as the program asks. -/
theorem eq_pair (x y : E) : (hi x == hi y && (lo x == lo y)) = decide (x = y) := by
  rw [Bool.eq_iff_iff, Bool.and_eq_true, beq_iff_eq, beq_iff_eq, decide_eq_true_eq]
  exact ⟨fun h => hl_inj h.1 h.2, fun h => by rw [h]; exact ⟨rfl, rfl⟩⟩
theorem eq_none (x : E) : (hi x == 0 && (lo x == 0)) = decide (x = 0) := by
  rw [← eq_pair, hi_zero, lo_zero]
end Go.Proofs.Ytfmjodlcjaflfaa.Sp
namespace Go.Proofs.Ytfmjodlcjaflfaa.Sp
open Go.Proofs.Ytfmjodlcjaflfaa.V.B Go.RowKit Go.Proofs.Ytfmjodlcjaflfaa.B Go.Proofs.Ytfmjodlcjaflfaa.V.B.Ar Go.Proofs.Ytfmjodlcjaflfaa.V.B.Tw
set_option linter.unusedVariables false
set_option linter.unusedSimpArgs false
theorem tw_lt {j v : Nat} (hj : j ≤ 6) (hv : v < Q 6) : tw 6 j v < Q 6 := by rw [tw_eq hj hv]; exact val_lt _
theorem shlw (a w : Nat) (hw : w ≤ 64) : shl .u64 (a : Int) (w : Int) = (((a * 2 ^ w) % 2 ^ 64 : Nat) : Int) := by
  unfold shl
  have h64 : IntKind.u64.bits = 64 := rfl
  rw [h64, Int.toNat_natCast, Nat.min_eq_left hw]
  have hc : ((a : Int) * 2 ^ w) = ((a * 2 ^ w : Nat) : Int) := by simp
  rw [hc]
  simp [IntKind.wrap, IntKind.bits, IntKind.signed]
/-- The generator of a level, as an element of the greatest one. -/
def gE (m : Nat) : E := of 7 (val (gen m))
theorem tw_hi {j : Nat} (hj : j ≤ 6) (x : T 6) : tw 6 j (val x) = val (of 6 (val (gen j)) * x) := by rw [tw_eq hj (val_lt x), of_val]
/-- The element with one bit. -/
def bitE (n : Nat) : E := of 7 (2 ^ n)
theorem bitE_hl {n : Nat} (hn : n < 128) : hi (bitE n) = (if n < 64 then 0 else ((2 ^ (n - 64) : Nat) : Int)) ∧ lo (bitE n) = (if n < 64 then ((2 ^ n : Nat) : Int) else 0) := by
  unfold bitE hi lo
  rw [of_succ, mk_fst, mk_snd]
  have hQ : Q 6 = 2 ^ 64 := rfl
  by_cases c : n < 64
  · have h1 : 2 ^ n < Q 6 := by rw [hQ]; exact Nat.pow_lt_pow_right (by decide) c
    rw [if_pos c, if_pos c, Nat.div_eq_of_lt h1, Nat.mod_eq_of_lt h1, val_of _ _ h1, of_zero, val_zero]; exact ⟨rfl, rfl⟩
  · have e : 2 ^ n = 2 ^ (n - 64) * Q 6 + 0 := by rw [hQ, ← Nat.pow_add, Nat.add_zero]; congr 1; omega
    have h2 : 2 ^ (n - 64) < Q 6 := by rw [hQ]; exact Nat.pow_lt_pow_right (by decide) (by omega)
    rw [if_neg c, if_neg c, e, join_div (Q_pos 6), join_mod (Q_pos 6), val_of _ _ h2, of_zero, val_zero]; exact ⟨rfl, rfl⟩
theorem refBit_ev (n : Nat) (hn : n < 128) : Ev (fun k => steepleref02_Bit.f k (n : Int)) (toR (bitE n)) := by
  obtain ⟨h1, h2⟩ := bitE_hl hn
  unfold steepleref02_Bit.f toR
  rw [h1, h2]
  refine Ev.neg (by omega) (Ev.neg (by omega) ?_)
  by_cases c : n < 64
  · rw [if_pos c, if_pos c]
    refine Ev.neg (by omega) ?_
    rw [u64_id (by omega) (by omega)]
    exact Ev.pos (Int.natCast_nonneg _) (Ev.ret' (by rw [shl_u64 n (by omega)]))
  · rw [if_neg c, if_neg c]
    refine Ev.pos (by omega) ?_
    have e : IntKind.u64.wrap (wrap64 ((n : Int) - 64)) = ((n - 64 : Nat) : Int) := by
      rw [w64_id (by omega) (by omega), u64_id (by omega) (by omega)]; omega
    rw [e]
    exact Ev.pos (Int.natCast_nonneg _) (Ev.ret' (by rw [shl_u64 (n - 64) (by omega)]))
theorem and_bit_ne (x n : Nat) : (x &&& 2 ^ n ≠ 0) ↔ x.testBit n = true := by
  constructor
  · intro h
    cases hb : x.testBit n with
    | true => rfl
    | false =>
      exfalso; apply h
      apply Nat.eq_of_testBit_eq
      intro i
      rw [Nat.testBit_and, Nat.zero_testBit]
      by_cases e : i = n
      · subst e; rw [hb, Bool.false_and]
      · rw [Nat.testBit_two_pow_of_ne (by omega), Bool.and_false]
  · intro h e
    have := congrArg (fun z => z.testBit n) e
    simp only [Nat.testBit_and, Nat.testBit_two_pow_self, Bool.and_true, Nat.zero_testBit] at this
    rw [h] at this; cases this
theorem hasBits (x : E) (n : Nat) (hn : n < 128) : ((Go.bits .or .u64 (Go.bits .and .u64 (lo x) (lo (bitE n))) (Go.bits .and .u64 (hi x) (hi (bitE n)))) != 0) = (val x).testBit n := by
  obtain ⟨h1, h2⟩ := bitE_hl hn
  have hx1 := val_lt x.1
  have hx2 := val_lt x.2
  have hQ : Q 6 = 2 ^ 64 := rfl
  rw [hQ] at hx1 hx2
  have hv : val x = 2 ^ 64 * val x.1 + val x.2 := by rw [val_succ, hQ, Nat.mul_comm]
  rw [h1, h2, hv]
  unfold hi lo
  by_cases c : n < 64
  · rw [if_pos c, if_pos c]
    have hp : 2 ^ n < 2 ^ 64 := Nat.pow_lt_pow_right (by decide) c
    have z : (0 : Int) = ((0 : Nat) : Int) := rfl
    rw [z, and_u64 _ _ hx2 hp, and_u64 _ _ hx1 (by decide), or_u64 _ _ (Nat.and_lt_two_pow _ hp) (Nat.and_lt_two_pow _ (by decide)), Nat.and_zero, Nat.or_zero]
    rw [Nat.testBit_two_pow_mul_add _ hx2, if_pos c, Bool.eq_iff_iff, ← and_bit_ne, bne_iff_ne]
    exact ⟨fun h e => h (by rw [e]), fun h e => h (by exact_mod_cast e)⟩
  · rw [if_neg c, if_neg c]
    have hp : 2 ^ (n - 64) < 2 ^ 64 := Nat.pow_lt_pow_right (by decide) (by omega)
    have z : (0 : Int) = ((0 : Nat) : Int) := rfl
    rw [z, and_u64 _ _ hx1 hp, and_u64 _ _ hx2 (by decide), or_u64 _ _ (Nat.and_lt_two_pow _ (by decide)) (Nat.and_lt_two_pow _ hp), Nat.and_zero, Nat.zero_or]
    rw [Nat.testBit_two_pow_mul_add _ hx2, if_neg c, Bool.eq_iff_iff, ← and_bit_ne, bne_iff_ne]
    exact ⟨fun h e => h (by rw [e]), fun h e => h (by exact_mod_cast e)⟩
theorem Has_ev (x : E) (n : Nat) (hn : n < 128) : Ev (fun k => steepleref02_Has.f k (toR x) (n : Int)) ((val x).testBit n) := by
  unfold steepleref02_Has.f
  refine Ev.bnd (refBit_ev n hn) (Ev.ret' (hasBits x n hn))
theorem and_one (n j : Nat) (hn : n < 2 ^ 63) (hj : j ≤ 64) : Go.bits .and .i64 (shr .i64 (n : Int) (j : Int)) 1 = (((n / 2 ^ j) % 2 : Nat) : Int) := by
  rw [shr_i64 n j hj]
  have := and_i64_mask (n / 2 ^ j) 1 (Nat.lt_of_le_of_lt (Nat.div_le_self _ _) hn) (by decide)
  simpa using this
end Go.Proofs.Ytfmjodlcjaflfaa.Sp
namespace Go.Proofs.Ytfmjodlcjaflfaa.Sp
open Go.Proofs.Ytfmjodlcjaflfaa.V.B Go.RowKit Go.Proofs.Ytfmjodlcjaflfaa.B Go.Proofs.Ytfmjodlcjaflfaa.V.B.Ar Go.Proofs.Ytfmjodlcjaflfaa.V.B.Tw
set_option linter.unusedVariables false
set_option linter.unusedSimpArgs false
/-- Sums. -/
def sumN (f : Nat → E) : Nat → E
  | 0 => 0
  | n + 1 => sumN f n + f n
theorem sumN_congr {f g : Nat → E} : ∀ n, (∀ i, i < n → f i = g i) → sumN f n = sumN g n
  | 0, _ => rfl
  | n + 1, h => by rw [sumN, sumN, sumN_congr n (fun i hi => h i (by omega)), h n (by omega)]
theorem sumN_add (f g : Nat → E) : ∀ n, sumN (fun i => f i + g i) n = sumN f n + sumN g n
  | 0 => (add_zero _).symm
  | n + 1 => by
    rw [sumN, sumN, sumN, sumN_add f g n]
    simp only [add_assoc, add_left_comm]
theorem sumN_mul (c : E) (f : Nat → E) : ∀ n, sumN (fun i => c * f i) n = c * sumN f n
  | 0 => (mul_zero _).symm
  | n + 1 => by rw [sumN, sumN, sumN_mul c f n, mul_add]
theorem sumN_zero : ∀ n, sumN (fun _ => (0 : E)) n = 0
  | 0 => rfl
  | n + 1 => by rw [sumN, sumN_zero n, add_zero]
theorem sumN_double (f : Nat → E) : ∀ n, sumN f (2 * n) = sumN (fun i => f (2 * i) + f (2 * i + 1)) n
  | 0 => rfl
  | n + 1 => by
    rw [show 2 * (n + 1) = 2 * n + 1 + 1 by omega, sumN, sumN, sumN, sumN_double f n, add_assoc]
theorem sumN_split (f : Nat → E) (m : Nat) : ∀ n, sumN f (m + n) = sumN f m + sumN (fun i => f (m + i)) n
  | 0 => (add_zero _).symm
  | n + 1 => by rw [← Nat.add_assoc, sumN, sumN, sumN_split f m n, add_assoc]
/-- A corner's weight at a point. -/
def weight : List E → Nat → E
  | [], _ => 1
  | p :: ps, i => (if i % 2 = 1 then p else 1 + p) * weight ps (i / 2)
/-- A table's value at a point. -/
def value (X P : List E) : E := sumN (fun i => X.getD i 0 * weight P i) X.length
/-- A table bound in its first variable. -/
def first (r : E) (X : List E) : List E := (List.range (X.length / 2)).map fun i => X.getD (2 * i) 0 + r * (X.getD (2 * i) 0 + X.getD (2 * i + 1) 0)
def firsts : List E → List E → List E
  | [], X => X
  | r :: rs, X => firsts rs (first r X)
theorem first_length (r : E) (X : List E) : (first r X).length = X.length / 2 := by simp [first]
theorem first_getD (r : E) (X : List E) (i : Nat) (h : i < X.length / 2) : (first r X).getD i 0 = X.getD (2 * i) 0 + r * (X.getD (2 * i) 0 + X.getD (2 * i + 1) 0) := by
  rw [List.getD_eq_getElem?_getD]; simp [first, h]
theorem between_eq (a b r : E) : a + r * (a + b) = (1 + r) * a + r * b := by
  rw [add_mul, one_mul, mul_add, add_assoc]
theorem value_first (X : List E) (r : E) (P : List E) (h : X.length = 2 * (X.length / 2)) : value X (r :: P) = value (first r X) P := by
  unfold value
  rw [first_length]
  conv => lhs; rw [h]
  rw [sumN_double]
  apply sumN_congr
  intro i hi
  rw [first_getD r X i hi, weight, weight, if_neg (by omega), if_pos (by omega), show 2 * i / 2 = i by omega, show (2 * i + 1) / 2 = i by omega, between_eq]
  rw [← mul_assoc, ← mul_assoc, mul_comm (X.getD (2 * i) 0), mul_comm (X.getD (2 * i + 1) 0), ← add_mul]
theorem pow_len {X : List E} {k : Nat} (h : X.length = 2 ^ (k + 1)) : X.length = 2 * (X.length / 2) := by rw [h, Nat.pow_succ]; omega
theorem firsts_length : ∀ (R X : List E) (k : Nat), X.length = 2 ^ k → R.length ≤ k → (firsts R X).length = 2 ^ (k - R.length)
  | [], X, k, h, _ => by rw [firsts, h]; rfl
  | r :: rs, X, k, h, hk => by
    rw [List.length_cons] at hk
    obtain ⟨k', rfl⟩ : ∃ k', k = k' + 1 := ⟨k - 1, by omega⟩
    rw [firsts, firsts_length rs (first r X) k' (by rw [first_length, h, Nat.pow_succ]; omega) (by omega), List.length_cons]
    congr 1; omega
theorem value_firsts : ∀ (R X P : List E) (k : Nat), X.length = 2 ^ k → R.length ≤ k → value X (R ++ P) = value (firsts R X) P
  | [], X, P, k, _, _ => rfl
  | r :: rs, X, P, k, h, hk => by
    rw [List.length_cons] at hk
    obtain ⟨k', rfl⟩ : ∃ k', k = k' + 1 := ⟨k - 1, by omega⟩
    rw [List.cons_append, value_first X r (rs ++ P) (pow_len h), firsts]
    exact value_firsts rs (first r X) P k' (by rw [first_length, h, Nat.pow_succ]; omega) (by omega)
theorem value_nil {X : List E} (h : X.length = 1) : value X [] = X.getD 0 0 := by
  unfold value; rw [h, sumN, sumN, zero_add, weight, mul_one]
theorem value_eq (X P : List E) (h : X.length = 2 ^ P.length) : value X P = (firsts P X).getD 0 0 := by
  have := value_firsts P X [] P.length h (Nat.le_refl _)
  rw [List.append_nil] at this
  rw [this, value_nil (by rw [firsts_length P X P.length h (Nat.le_refl _), Nat.sub_self, Nat.pow_zero])]

/-- k of 2^k, as both tell it. -/
theorem map_set {α β : Type} (f : α → β) (X : List α) (i : Nat) (x : α) : (X.map f).set i (f x) = (X.set i x).map f := by rw [List.map_set]
theorem toS_mk (x : E) : (⟨hi x, lo x⟩ : S34) = toS x := rfl
theorem toR_mk (x : E) : (⟨hi x, lo x⟩ : S39) = toR x := rfl
theorem getD_set_self {X : List E} {i : Nat} (h : i < X.length) (x : E) : (X.set i x).getD i 0 = x := by
  rw [List.getD_eq_getElem?_getD, List.getElem?_set_self h]; rfl
theorem getD_set_ne {X : List E} {i j : Nat} (h : i ≠ j) (x : E) : (X.set i x).getD j 0 = X.getD j 0 := by
  rw [List.getD_eq_getElem?_getD, List.getD_eq_getElem?_getD, List.getElem?_set_ne h]
theorem ext_getD {X Y : List E} (hl : X.length = Y.length) (h : ∀ i, i < X.length → X.getD i 0 = Y.getD i 0) : X = Y := by
  apply List.ext_getElem hl
  intro j h1 h2
  have := h j h1
  simpa [List.getD_eq_getElem?_getD, h1, h2] using this
theorem getD_take {X : List E} {i m : Nat} (h : i < m) : (X.take m).getD i 0 = X.getD i 0 := by
  rw [List.getD_eq_getElem?_getD, List.getD_eq_getElem?_getD, List.getElem?_take_of_lt h]
theorem allS_getD {l : Nat} {X : List E} (h : AllS (l : Int) X) (i : Nat) : InL l (X.getD i 0) := by
  rw [List.getD_eq_getElem?_getD]
  by_cases c : i < X.length
  · rw [List.getElem?_eq_getElem c]
    have := (h _ (List.getElem_mem c)).2.2
    rw [Int.toNat_natCast] at this; exact this
  · rw [List.getElem?_eq_none (by omega)]; exact inL_zero l
theorem allS_first {l : Nat} (hl : l ≤ 7) {X : List E} {r : E} (hX : AllS (l : Int) X) (hr : InL l r) : AllS (l : Int) (first r X) := by
  intro x hx
  unfold first at hx
  rw [List.mem_map] at hx
  obtain ⟨i, _, rfl⟩ := hx
  refine ⟨by omega, by omega, ?_⟩
  rw [Int.toNat_natCast]
  exact inL_add (allS_getD hX _) (inL_mul hl hr (inL_add (allS_getD hX _) (allS_getD hX _)))
theorem half_len (n : Nat) (h : n ≤ 1000000) : wrap64 ((n : Int) / 2) = ((n / 2 : Nat) : Int) := by rw [w64_id (by omega) (by omega)]; omega
theorem w64_dbl {i : Nat} (h : i ≤ 1000000) : wrap64 (2 * (i : Int)) = ((2 * i : Nat) : Int) := by rw [w64_id (by omega) (by omega)]; omega
end Go.Proofs.Ytfmjodlcjaflfaa.Sp
namespace Go.Proofs.Ytfmjodlcjaflfaa.Sp
open Go.Proofs.Ytfmjodlcjaflfaa.V.B Go.RowKit Go.Proofs.Ytfmjodlcjaflfaa.B Go.Proofs.Ytfmjodlcjaflfaa.V.B.Ar Go.Proofs.Ytfmjodlcjaflfaa.V.B.Tw
set_option linter.unusedVariables false
/-- The pair of x and y: y beside each bit that x has. -/
def pick (b : Bool) (y : E) : E := if b then y else 0
theorem pick_true (y : E) : pick true y = y := if_pos rfl
theorem pick_false (y : E) : pick false y = 0 := if_neg Bool.false_ne_true
def pairX (n : Nat) (x y : E) : List E := (List.range n).map fun i => pick ((val x).testBit i) y
theorem pairX_length (n : Nat) (x y : E) : (pairX n x y).length = n := by simp [pairX]
theorem getD_rangeM {α : Type} (f : Nat → α) (d : α) (n i : Nat) (h : i < n) : ((List.range n).map f).getD i d = f i := by
  rw [List.getD_eq_getElem?_getD, List.getElem?_map, List.getElem?_range h]; rfl
theorem range_succM {α : Type} (f : Nat → α) (n : Nat) : (List.range (n + 1)).map f = (List.range n).map f ++ [f n] := by
  rw [List.range_succ, List.map_append]; rfl
theorem pairX_getD (n : Nat) (x y : E) (i : Nat) (h : i < n) : (pairX n x y).getD i 0 = pick ((val x).testBit i) y := getD_rangeM (fun i => pick ((val x).testBit i) y) 0 n i h
theorem pairX_succ (n : Nat) (x y : E) : pairX (n + 1) x y = pairX n x y ++ [pick ((val x).testBit n) y] := range_succM _ n
theorem w128 {l : Nat} (hl : l ≤ 7) : 2 ^ l ≤ 128 := Nat.pow_le_pow_right (n := 2) (by decide) hl
theorem lv_of {L : Int} {x : E} (h : OfS L x) : LvS L := ⟨h.1, h.2.1⟩
theorem rep_zero (n : Nat) : List.replicate n z34 = (List.replicate n (0 : E)).map toS := by rw [List.map_replicate, toS_zero]
def leftO (L : Int) (x : E) : List E := if OfS L x then pairX (2 ^ L.toNat) x 1 else []
def rightO (L : Int) (x : E) : List E := if OfS L x then pairX (2 ^ L.toNat) 1 x else []
theorem one_bit (i : Nat) : (val (1 : E)).testBit i = decide (i = 0) := by
  rw [val_one, show (1 : Nat) = 2 ^ 0 from rfl, Nat.testBit_two_pow]
  simp [eq_comm]
theorem pairX_one (n : Nat) (x : E) (hn : 0 < n) : pairX n 1 x = (List.replicate n (0 : E)).set 0 x := by
  apply List.ext_getElem
  · rw [pairX_length]; simp
  · intro i h1 h2
    rw [pairX_length] at h1
    have e1 : (pairX n 1 x)[i] = (pairX n 1 x).getD i 0 := by rw [List.getD_eq_getElem?_getD, List.getElem?_eq_getElem (by rw [pairX_length]; exact h1)]; rfl
    rw [e1, pairX_getD n 1 x i h1, one_bit, List.getElem_set]
    by_cases c : i = 0
    · subst c; simp [pick_true]
    · rw [decide_eq_false c, pick_false, if_neg (fun h => c h.symm), List.getElem_replicate]
end Go.Proofs.Ytfmjodlcjaflfaa.Sp
namespace Go.Proofs.Ytfmjodlcjaflfaa.Sp
open Go.Proofs.Ytfmjodlcjaflfaa.V.B Go.RowKit Go.Proofs.Ytfmjodlcjaflfaa.B Go.Proofs.Ytfmjodlcjaflfaa.V.B.Ar Go.Proofs.Ytfmjodlcjaflfaa.V.B.Tw
set_option linter.unusedVariables false
theorem pick_add (b : Bool) (y z : E) : pick b (y + z) = pick b y + pick b z := by
  cases b
  · rw [pick_false, pick_false, pick_false, add_zero]
  · rw [pick_true, pick_true, pick_true]
theorem pick_mul (b : Bool) (y z : E) : pick b (y * z) = pick b y * z := by
  cases b
  · rw [pick_false, pick_false, zero_mul]
  · rw [pick_true, pick_true]
theorem pick_zero (b : Bool) : pick b (0 : E) = 0 := by
  cases b
  · exact pick_false _
  · exact pick_true _
theorem pick_xor (a b : Bool) (y : E) : pick (a ^^ b) y = pick a y + pick b y := by
  cases a <;> cases b
  · show pick false y = _; rw [pick_false, add_zero]
  · show pick true y = _; rw [pick_false, pick_true, zero_add]
  · show pick true y = _; rw [pick_false, pick_true, add_zero]
  · show pick false y = _; rw [pick_false, pick_true, add_self]
theorem pick_comm (a b : Bool) (y : E) : pick a (pick b y) = pick b (pick a y) := by
  cases a <;> cases b <;> simp only [pick_true, pick_false]
/-- Has an element the bit? -/
def hasB (x : E) (k : Nat) : Bool := (val x).testBit k
theorem hasB_add (x y : E) (k : Nat) : hasB (x + y) k = (hasB x k ^^ hasB y k) := by
  unfold hasB; rw [val_add, Nat.testBit_xor]
theorem hasB_zero (k : Nat) : hasB 0 k = false := by unfold hasB; rw [val_zero, Nat.zero_testBit]
/-- What the bit k of z picks of y is a sum in z. -/
theorem pick_hasB_add (x z y : E) (k : Nat) : pick (hasB (x + z) k) y = pick (hasB x k) y + pick (hasB z k) y := by rw [hasB_add, pick_xor]
theorem pick_hasB_sum (f : Nat → E) (y : E) (k : Nat) : ∀ n, pick (hasB (sumN f n) k) y = sumN (fun u => pick (hasB (f u) k) y) n
  | 0 => by rw [sumN, sumN, hasB_zero, pick_false]
  | n + 1 => by rw [sumN, sumN, pick_hasB_add, pick_hasB_sum f y k n]
theorem pick_hasB_pick (b : Bool) (x y : E) (k : Nat) : pick (hasB (pick b x) k) y = pick b (pick (hasB x k) y) := by
  cases b
  · rw [pick_false, pick_false, hasB_zero, pick_false]
  · rw [pick_true, pick_true]
theorem pick_sum (b : Bool) (f : Nat → E) : ∀ n, pick b (sumN f n) = sumN (fun u => pick b (f u)) n
  | 0 => pick_zero b
  | n + 1 => by rw [sumN, sumN, pick_add, pick_sum b f n]
theorem sumN_mulr (c : E) (f : Nat → E) (n : Nat) : sumN (fun i => f i * c) n = sumN f n * c := by
  rw [mul_comm, ← sumN_mul]
  exact sumN_congr n (fun i _ => mul_comm _ _)
theorem sumN_swap (f : Nat → Nat → E) (n : Nat) : ∀ m, sumN (fun i => sumN (fun j => f i j) m) n = sumN (fun j => sumN (fun i => f i j) n) m
  | 0 => sumN_zero n
  | m + 1 => by
    rw [sumN, ← sumN_swap f n m, ← sumN_add]
    exact sumN_congr n (fun i _ => rfl)
theorem sumN_one (f : Nat → E) (n i : Nat) (hi : i < n) (h : ∀ j, j < n → j ≠ i → f j = 0) : sumN f n = f i := by
  induction n with
  | zero => omega
  | succ n ih =>
    rw [sumN]
    by_cases c : i = n
    · subst c
      have : sumN f i = 0 := by
        rw [sumN_congr (g := fun _ => 0) i (fun j hj => h j (by omega) (by omega))]; exact sumN_zero i
      rw [this, zero_add]
    · rw [ih (by omega) (fun j hj hne => h j (by omega) hne), h n (by omega) (fun e => c e.symm), add_zero]
theorem val_bitE {n : Nat} (hn : n < 128) : val (bitE n) = 2 ^ n := by
  unfold bitE
  exact val_of 7 _ (by rw [Q_seven]; exact Nat.pow_lt_pow_right (by decide) hn)
theorem val_pick (b : Bool) (x : E) : val (pick b x) = if b then val x else 0 := by
  cases b
  · rw [pick_false, val_zero]; rfl
  · rw [pick_true]; rfl
/-- An element is the sum of its bits. -/
theorem val_expand (x : E) : ∀ n, n ≤ 128 → val (sumN (fun u => pick (hasB x u) (bitE u)) n) = val x % 2 ^ n
  | 0, _ => by rw [sumN, val_zero, Nat.pow_zero, Nat.mod_one]
  | n + 1, h => by
    rw [sumN, val_add, val_expand x n (by omega), val_pick, val_bitE (by omega)]
    apply Nat.eq_of_testBit_eq
    intro j
    rw [Nat.testBit_xor, Nat.testBit_mod_two_pow, Nat.testBit_mod_two_pow]
    show _ = _
    unfold hasB
    generalize val x = v
    by_cases c : j = n
    · subst c
      cases hb : v.testBit j with
      | true => rw [if_pos rfl, Nat.testBit_two_pow_self]; simp
      | false => rw [if_neg Bool.false_ne_true, Nat.zero_testBit]; simp
    · have h2 : (if v.testBit n then 2 ^ n else 0 : Nat).testBit j = false := by
        cases v.testBit n with
        | true => rw [if_pos rfl, Nat.testBit_two_pow]; simp; omega
        | false => rw [if_neg Bool.false_ne_true, Nat.zero_testBit]
      rw [h2, Bool.xor_false]
      have : decide (j < n + 1) = decide (j < n) := by rw [decide_eq_decide]; omega
      rw [this]
theorem expand {l : Nat} (hl : l ≤ 7) {x : E} (hx : InL l x) : sumN (fun u => pick (hasB x u) (bitE u)) (2 ^ l) = x := by
  apply val_inj
  rw [val_expand x (2 ^ l) (w128 hl)]
  exact Nat.mod_eq_of_lt hx
theorem bitE_in {l u : Nat} (hl : l ≤ 7) (hu : u < 2 ^ l) : InL l (bitE u) := by
  unfold InL Q
  rw [val_bitE (Nat.lt_of_lt_of_le hu (w128 hl))]
  exact Nat.pow_lt_pow_right (by decide) hu
theorem bitE_zero : bitE 0 = 1 := by
  apply val_inj; rw [val_bitE (by decide), val_one]
/-- The bits of a product are sums of those of the products of bits. -/
theorem has_mul {l : Nat} (hl : l ≤ 7) {x : E} (hx : InL l x) (a y : E) (k : Nat) : sumN (fun u => pick (hasB x u) (pick (hasB (bitE u * a) k) y)) (2 ^ l) = pick (hasB (x * a) k) y := by
  have h1 : x * a = sumN (fun u => pick (hasB x u) (bitE u * a)) (2 ^ l) := by
    conv => lhs; rw [← expand hl hx]
    rw [← sumN_mulr]
    exact sumN_congr _ (fun u _ => (pick_mul _ _ _).symm)
  rw [h1, pick_hasB_sum]
  exact sumN_congr _ (fun u _ => (pick_hasB_pick _ _ _ _).symm)
/-- Part k of a tensor times an element on the left, its parts times another one. -/
def actT (n : Nat) (t : Nat → E) (a p : E) (k : Nat) : E := sumN (fun u => pick (hasB (bitE u * a) k) (t u * p)) n
theorem actT_pair {l : Nat} (hl : l ≤ 7) {x : E} (hx : InL l x) (y a p : E) (k : Nat) : actT (2 ^ l) (fun u => pick (hasB x u) y) a p k = pick (hasB (x * a) k) (y * p) := by
  unfold actT
  rw [← has_mul hl hx a (y * p) k]
  exact sumN_congr _ (fun u _ => by rw [← pick_mul, pick_comm])
theorem actT_congr (n : Nat) {t s : Nat → E} (a p : E) (k : Nat) (h : ∀ u, u < n → t u = s u) : actT n t a p k = actT n s a p k := by
  unfold actT; exact sumN_congr _ (fun u hu => by rw [h u hu])
theorem actT_sum (n m : Nat) (t : Nat → Nat → E) (a p : E) (k : Nat) : actT n (fun u => sumN (fun i => t i u) m) a p k = sumN (fun i => actT n (t i) a p k) m := by
  unfold actT
  rw [sumN_swap (fun i u => pick (hasB (bitE u * a) k) (t i u * p)) m n]
  exact sumN_congr _ (fun u _ => by rw [← sumN_mulr, pick_sum])
theorem actT_add (n : Nat) (t s : Nat → E) (a p : E) (k : Nat) : actT n (fun u => t u + s u) a p k = actT n t a p k + actT n s a p k := by
  unfold actT
  rw [← sumN_add]
  exact sumN_congr _ (fun u _ => by rw [add_mul, pick_add])
theorem pick_in {l : Nat} {x : E} (b : Bool) (h : InL l x) : InL l (pick b x) := by
  cases b
  · rw [pick_false]; exact inL_zero l
  · rw [pick_true]; exact h
theorem sumN_in {l : Nat} (f : Nat → E) : ∀ n, (∀ i, i < n → InL l (f i)) → InL l (sumN f n)
  | 0, _ => inL_zero l
  | n + 1, h => by rw [sumN]; exact inL_add (sumN_in f n (fun i hi => h i (by omega))) (h n (by omega))
theorem actT_in {l : Nat} (hl : l ≤ 7) (n : Nat) (t : Nat → E) (a p : E) (k : Nat) (ht : ∀ u, u < n → InL l (t u)) (hp : InL l p) : InL l (actT n t a p k) :=
  sumN_in _ n (fun u hu => pick_in _ (inL_mul hl (ht u hu) hp))
/-- Weights, variable by variable from behind. -/
theorem weight_in {l : Nat} (hl : l ≤ 7) : ∀ (P : List E) (i : Nat), (∀ p ∈ P, InL l p) → InL l (weight P i)
  | [], i, _ => inL_one l
  | p :: ps, i, h => by
    have hp := h p List.mem_cons_self
    rw [weight]
    refine inL_mul hl ?_ (weight_in hl ps (i / 2) (fun q hq => h q (List.mem_cons_of_mem _ hq)))
    split
    · exact hp
    · exact inL_add (inL_one l) hp
theorem weight_snoc (p : E) : ∀ (P : List E) (i : Nat), weight (P ++ [p]) i = weight P i * (if i / 2 ^ P.length % 2 = 1 then p else 1 + p)
  | [], i => by
    show weight (p :: []) i = weight [] i * _
    rw [weight, weight, weight, mul_one, one_mul]
    simp
  | q :: Q, i => by
    show weight (q :: (Q ++ [p])) i = weight (q :: Q) i * _
    rw [weight, weight, weight_snoc p Q (i / 2), mul_assoc, Nat.div_div_eq_div_mul, List.length_cons, Nat.pow_succ, Nat.mul_comm 2]
theorem weight_high (b : Nat) : ∀ (P : List E) (i : Nat), i < 2 ^ P.length → weight P (2 ^ P.length * b + i) = weight P i
  | [], i, _ => rfl
  | q :: Q, i, h => by
    rw [List.length_cons, Nat.pow_succ] at h
    have e1 : (2 ^ (q :: Q).length * b + i) % 2 = i % 2 := by
      rw [List.length_cons, Nat.pow_succ, Nat.mul_comm (2 ^ Q.length) 2, Nat.mul_assoc]; omega
    have e2 : (2 ^ (q :: Q).length * b + i) / 2 = 2 ^ Q.length * b + i / 2 := by
      rw [List.length_cons, Nat.pow_succ, Nat.mul_comm (2 ^ Q.length) 2, Nat.mul_assoc]; omega
    rw [weight, weight, e1, e2, weight_high b Q (i / 2) (by omega)]
theorem weight_low (p : E) (P : List E) (i : Nat) (h : i < 2 ^ P.length) : weight (P ++ [p]) i = weight P i * (1 + p) := by
  rw [weight_snoc, Nat.div_eq_of_lt h]; rfl
theorem weight_up (p : E) (P : List E) (i : Nat) (h : i < 2 ^ P.length) : weight (P ++ [p]) (2 ^ P.length + i) = weight P i * p := by
  have h0 := weight_high 1 P i h
  rw [Nat.mul_one] at h0
  have e : (2 ^ P.length + i) / 2 ^ P.length % 2 = 1 := by
    rw [Nat.add_div_left _ (Nat.two_pow_pos _), Nat.div_eq_of_lt h]
  rw [weight_snoc, h0, e]; rfl
/-- How alike two points are, part by part. -/
def alikeX (P R : List E) (k : Nat) : E := sumN (fun i => pick (hasB (weight P i) k) (weight R i)) (2 ^ P.length)
theorem alikeX_nil (k : Nat) : alikeX [] [] k = pick (hasB 1 k) 1 := by
  unfold alikeX
  show sumN _ 1 = _
  rw [sumN, sumN, zero_add]; rfl
theorem alikeX_snoc {l : Nat} (hl : l ≤ 7) (P R : List E) (p r : E) (hP : ∀ x ∈ P, InL l x) (hlen : P.length = R.length) (k : Nat) :
    alikeX (P ++ [p]) (R ++ [r]) k = alikeX P R k + actT (2 ^ l) (alikeX P R) p 1 k + alikeX P R k * r := by
  have e1 : actT (2 ^ l) (alikeX P R) p 1 k = sumN (fun i => pick (hasB (weight P i * p) k) (weight R i)) (2 ^ P.length) := by
    unfold alikeX
    rw [actT_sum]
    exact sumN_congr _ (fun i _ => by rw [actT_pair hl (weight_in hl P i hP), mul_one])
  have e2 : alikeX P R k * r = sumN (fun i => pick (hasB (weight P i) k) (weight R i * r)) (2 ^ P.length) := by
    unfold alikeX
    rw [← sumN_mulr]
    exact sumN_congr _ (fun i _ => (pick_mul _ _ _).symm)
  rw [e1, e2]
  unfold alikeX
  rw [← sumN_add, ← sumN_add, List.length_append, List.length_singleton, Nat.pow_succ, Nat.mul_two, sumN_split, ← sumN_add]
  apply sumN_congr
  intro i hi
  have hi' : i < 2 ^ R.length := by rw [← hlen]; exact hi
  rw [weight_low p P i hi, weight_up p P i hi, weight_low r R i hi', show 2 ^ P.length + i = 2 ^ R.length + i by rw [hlen], weight_up r R i hi']
  generalize weight P i = w
  generalize weight R i = v
  rw [mul_add, mul_add, mul_one, mul_one, pick_hasB_add, pick_add, pick_add]
  generalize pick (hasB w k) v = a
  generalize pick (hasB (w * p) k) v = b
  generalize pick (hasB w k) (v * r) = c
  generalize pick (hasB (w * p) k) (v * r) = d
  have : a + c + (b + d) + d = a + b + c := by
    rw [add_assoc (a + c), add_assoc b d d, add_self, add_zero, add_assoc a c b, add_comm c b, ← add_assoc]
  exact this
end Go.Proofs.Ytfmjodlcjaflfaa.Sp
namespace Go.Proofs.Ytfmjodlcjaflfaa.Sp
open Go.Proofs.Ytfmjodlcjaflfaa.V.B Go.RowKit Go.Proofs.Ytfmjodlcjaflfaa.B Go.Proofs.Ytfmjodlcjaflfaa.V.B.Ar Go.Proofs.Ytfmjodlcjaflfaa.V.B.Tw
set_option linter.unusedVariables false
/-- A list of so many elements. -/
def tabL (n : Nat) (f : Nat → E) : List E := (List.range n).map f
theorem tabL_length (n : Nat) (f : Nat → E) : (tabL n f).length = n := by simp [tabL]
theorem tabL_getD (n : Nat) (f : Nat → E) (i : Nat) (h : i < n) : (tabL n f).getD i 0 = f i := getD_rangeM f 0 n i h
theorem tabL_congr (n : Nat) {f g : Nat → E} (h : ∀ i, i < n → f i = g i) : tabL n f = tabL n g := by
  unfold tabL
  apply List.map_congr_left
  intro i hi
  exact h i (List.mem_range.1 hi)
theorem tabL_self (X : List E) : tabL X.length (fun i => X.getD i 0) = X := by
  apply ext_getD (tabL_length _ _)
  intro i hi
  rw [tabL_length] at hi
  exact tabL_getD _ _ i hi
theorem tabL_set (n : Nat) (f g : Nat → E) (i : Nat) (hi : i < n) (hg : ∀ k, k < n → k ≠ i → g k = f k) : (tabL n f).set i (g i) = tabL n g := by
  apply ext_getD
  · rw [List.length_set, tabL_length, tabL_length]
  · intro k hk
    rw [List.length_set, tabL_length] at hk
    rw [tabL_getD n g k hk]
    by_cases c : i = k
    · subst c
      exact getD_set_self (by rw [tabL_length]; exact hi) _
    · rw [getD_set_ne c, tabL_getD n f k hk, hg k hk (fun e => c e.symm)]
theorem tabL_replicate (n : Nat) : List.replicate n (0 : E) = tabL n (fun _ => 0) := by
  apply ext_getD
  · rw [List.length_replicate, tabL_length]
  · intro i hi
    rw [List.length_replicate] at hi
    rw [tabL_getD n _ i hi, List.getD_eq_getElem?_getD, List.getElem?_replicate, if_pos hi]; rfl
theorem tabL_all {l : Nat} (hl : l ≤ 7) (n : Nat) (f : Nat → E) (h : ∀ i, i < n → InL l (f i)) : AllS (l : Int) (tabL n f) := by
  intro x hx
  unfold tabL at hx
  obtain ⟨i, hi, rfl⟩ := List.mem_map.1 hx
  exact ⟨by omega, by omega, by rw [Int.toNat_natCast]; exact h i (List.mem_range.1 hi)⟩
theorem ofS_of {l : Nat} (hl : l ≤ 7) {x : E} (h : InL l x) : OfS (l : Int) x := ⟨by omega, by omega, by rw [Int.toNat_natCast]; exact h⟩
theorem inL_of {l : Nat} {x : E} (h : OfS (l : Int) x) : InL l x := by have := h.2.2; rwa [Int.toNat_natCast] at this
/-- One product's bits, each with y, added to what there is. -/
def bitAdd (f : Nat → E) (z y : E) (i k : Nat) : E := f k + pick (decide (k < i) && hasB z k) y
theorem bitAdd_zero (f : Nat → E) (z y : E) (k : Nat) : bitAdd f z y 0 k = f k := by
  unfold bitAdd
  rw [decide_eq_false (Nat.not_lt_zero k), Bool.false_and, pick_false, add_zero]
theorem bitAdd_at (f : Nat → E) (z y : E) (i : Nat) : bitAdd f z y i i = f i := by
  unfold bitAdd
  rw [decide_eq_false (Nat.lt_irrefl i), Bool.false_and, pick_false, add_zero]
theorem bitAdd_next (f : Nat → E) (z y : E) (i k : Nat) (h : k ≠ i) : bitAdd f z y (i + 1) k = bitAdd f z y i k := by
  unfold bitAdd
  have : decide (k < i + 1) = decide (k < i) := by rw [decide_eq_decide]; omega
  rw [this]
theorem bitAdd_now (f : Nat → E) (z y : E) (i : Nat) : bitAdd f z y (i + 1) i = f i + pick (hasB z i) y := by
  unfold bitAdd
  rw [decide_eq_true (Nat.lt_succ_self i), Bool.true_and]
theorem bitAdd_end (f : Nat → E) (z y : E) (n k : Nat) (h : k < n) : bitAdd f z y n k = f k + pick (hasB z k) y := by
  unfold bitAdd
  rw [decide_eq_true h, Bool.true_and]
-- @IF packvbyLeft
end Go.Proofs.Ytfmjodlcjaflfaa.Sp
namespace Go.Proofs.Ytfmjodlcjaflfaa.Sp
open Go.Proofs.Ytfmjodlcjaflfaa.V.B Go.RowKit Go.Proofs.Ytfmjodlcjaflfaa.B Go.Proofs.Ytfmjodlcjaflfaa.V.B.Ar Go.Proofs.Ytfmjodlcjaflfaa.V.B.Tw
set_option linter.unusedVariables false
set_option linter.unusedSimpArgs false
/-- The number of the first element that is not P, or -1. -/
theorem index_gen {α : Type} {l : Nat → List S34 → α → Int → Int → Option Int} {p : Nat → S34 → Option α → Option Bool} {P : E → Prop} [DecidablePred P] {a : α}
    (hs : ∀ k xs n i, l (k + 1) xs a n i = if i < n then (if 0 ≤ i then (if i < (xs.length : Int) then ((p k (rd34 xs i) (some a)).bind fun r => if r = true then some i else l k xs a n (wrap64 (i + 1))) else none) else none) else some (-1))
    (hp : ∀ x, Ev (fun k => p k (toS x) (some a)) (decide (¬ P x))) (X : List E) (hX : X.length ≤ 4611686018427387904) : ∀ (d i : Nat), i + d = X.length →
    ∃ r : Int, Ev (fun k => l k (X.map toS) a (X.length : Int) (i : Int)) r ∧ (r ≥ 0 ↔ ¬ ∀ x ∈ X.drop i, P x) := by
  intro d
  induction d with
  | zero =>
    intro i hi
    refine ⟨-1, Ev.step (fun k => hs k _ _ _) (Ev.neg (by omega) (Ev.ret _)), ?_⟩
    rw [List.drop_eq_nil_of_le (by omega)]
    exact ⟨fun h => absurd h (by decide), fun h => absurd (fun x hx => by cases hx) h⟩
  | succ d ih =>
    intro i hi
    have hi' : i < X.length := by omega
    obtain ⟨r, h1, h2⟩ := ih (i + 1) (by omega)
    have hd : (∀ x ∈ X.drop i, P x) ↔ P (X.getD i 0) ∧ ∀ x ∈ X.drop (i + 1), P x := by
      rw [List.drop_eq_getElem_cons hi']
      have : X.getD i 0 = X[i] := by rw [List.getD_eq_getElem?_getD, List.getElem?_eq_getElem hi']; rfl
      rw [this]
      exact List.forall_mem_cons
    have go : ∀ {r : Int}, Ev (fun k => (p k (rd34 (X.map toS) (i : Int)) (some a)).bind fun r => if r = true then some (i : Int) else l k (X.map toS) a (X.length : Int) (wrap64 ((i : Int) + 1))) r → Ev (fun k => l k (X.map toS) a (X.length : Int) (i : Int)) r := fun h =>
      Ev.step (fun k => hs k _ _ _) (Ev.pos (by omega) (Ev.pos (Int.natCast_nonneg _) (Ev.pos (by rw [List.length_map]; omega) h)))
    simp only [rdS, w64_succ hi' hX] at go
    by_cases c : P (X.getD i 0)
    · refine ⟨r, go (Ev.bnd (hp _) (Ev.neg (by simpa using c) h1)), h2.trans ?_⟩
      rw [hd]
      exact ⟨fun h g => h g.2, fun h g => h ⟨c, g⟩⟩
    · refine ⟨(i : Int), go (Ev.bnd (hp _) (Ev.pos (by simpa using c) (Ev.ret _))), ?_⟩
      rw [hd]
      exact ⟨fun _ g => c g.1, fun _ => Int.natCast_nonneg _⟩
end Go.Proofs.Ytfmjodlcjaflfaa.Sp
namespace Go.Proofs.Ytfmjodlcjaflfaa.Sp
open Go.Proofs.Ytfmjodlcjaflfaa.V.B Go.RowKit Go.Proofs.Ytfmjodlcjaflfaa.B Go.Proofs.Ytfmjodlcjaflfaa.V.B.Ar Go.Proofs.Ytfmjodlcjaflfaa.V.B.Tw
set_option linter.unusedVariables false
set_option linter.unusedSimpArgs false
/-- How many bits a number has. -/
def blen (n : Nat) : Nat := if n = 0 then 0 else Nat.log2 n + 1
theorem blen_le (n k : Nat) : blen n ≤ k ↔ n < 2 ^ k := by
  unfold blen
  by_cases h : n = 0
  · rw [if_pos h, h]
    exact ⟨fun _ => Nat.two_pow_pos k, fun _ => Nat.zero_le _⟩
  · rw [if_neg h, ← Nat.log2_lt h]
    exact ⟨fun h => h, fun h => h⟩
theorem blen_shift (n s : Nat) (h : 2 ^ s ≤ n) : blen n = blen (n / 2 ^ s) + s := by
  have key : ∀ k, blen n ≤ k + s ↔ blen (n / 2 ^ s) ≤ k := by
    intro k
    rw [blen_le, blen_le, Nat.div_lt_iff_lt_mul (Nat.two_pow_pos s), ← Nat.pow_add]
  have hs : s ≤ blen n := by
    apply Classical.byContradiction
    intro g
    have := (blen_le n s).1 (by omega)
    omega
  have h1 := (key (blen (n / 2 ^ s))).2 (Nat.le_refl _)
  have h2 := (key (blen n - s)).1 (by omega)
  omega
theorem len8_eq : ∀ b : Nat, b < 256 → bt by256_793 (b : Int) = ((blen b : Nat) : Int) := by decide +kernel
theorem u8_id {x : Int} (h0 : 0 ≤ x) (h1 : x < 256) : IntKind.u8.wrap x = x := by
  simp [IntKind.wrap, IntKind.bits, IntKind.signed]; omega
theorem len_j10 (n : Nat) (hn : n < 256) (x : Nat) (hx : x ≤ 1000) : Ev (fun k => math_bits_Len64.j10 k (n : Int) (x : Int)) ((x + blen n : Nat) : Int) := by
  have hb : blen n ≤ 8 := (blen_le n 8).2 hn
  refine Ev.step (fun k => by rw [math_bits_Len64.j10]) ?_
  rw [u8_id (by omega) (by omega), len8_eq n hn, w64_id (x := ((blen n : Nat) : Int)) (by omega) (by omega), w64_add (by omega) (by omega)]
  exact Ev.pos (by omega) (Ev.pos (by rw [show (ByteArray.size by256_793 : Int) = 256 from by decide +kernel]; omega) (Ev.ret _))
theorem len_j7 (n : Nat) (hn : n < 65536) (x : Nat) (hx : x ≤ 900) : Ev (fun k => math_bits_Len64.j7 k (n : Int) (x : Int)) ((x + blen n : Nat) : Int) := by
  refine Ev.step (fun k => by rw [math_bits_Len64.j7]) ?_
  by_cases c : (n : Int) ≥ 256
  · refine Ev.pos c ?_
    have e8 : wrap64 ((x : Int) + 8) = ((x + 8 : Nat) : Int) := by rw [w64_id (by omega) (by omega)]; omega
    have hb := blen_shift n 8 (by omega)
    rw [show (8 : Int) = ((8 : Nat) : Int) from rfl, shr_u64 n 8 (by decide)] at *
    rw [e8]
    have := len_j10 (n / 2 ^ 8) (by omega) (x + 8) (by omega)
    rwa [show x + 8 + blen (n / 2 ^ 8) = x + blen n by omega] at this
  · exact Ev.neg c (len_j10 n (by omega) x (by omega))
theorem Len64_ev (n : Nat) (hn : n < 2 ^ 64) : Ev (fun k => math_bits_Len64.f k (n : Int)) ((blen n : Nat) : Int) := by
  unfold math_bits_Len64.f
  have s32 : shr .u64 (n : Int) 32 = ((n / 2 ^ 32 : Nat) : Int) := shr_u64 n 32 (by decide)
  have s16 : ∀ m : Nat, shr .u64 (m : Int) 16 = ((m / 2 ^ 16 : Nat) : Int) := fun m => shr_u64 m 16 (by decide)
  have e0 : wrap64 ((32 : Int) + 16) = ((48 : Nat) : Int) := by decide +kernel
  have e1 : wrap64 ((0 : Int) + 16) = ((16 : Nat) : Int) := by decide +kernel
  by_cases c : (n : Int) ≥ 4294967296
  · refine Ev.pos c ?_
    have hb := blen_shift n 32 (by omega)
    rw [s32, s16, e0]
    generalize hq : n / 2 ^ 32 = q at hb
    by_cases d : (q : Int) ≥ 65536
    · have hb2 := blen_shift q 16 (by omega)
      have := len_j7 (q / 2 ^ 16) (by omega) 48 (by decide)
      rw [show 48 + blen (q / 2 ^ 16) = blen n by omega] at this
      exact Ev.pos d this
    · have := len_j7 q (by omega) 32 (by decide)
      rw [show 32 + blen q = blen n by omega] at this
      exact Ev.neg d this
  · refine Ev.neg c ?_
    rw [s16, e1]
    by_cases d : (n : Int) ≥ 65536
    · have hb2 := blen_shift n 16 (by omega)
      have := len_j7 (n / 2 ^ 16) (by omega) 16 (by decide)
      rw [show 16 + blen (n / 2 ^ 16) = blen n by omega] at this
      exact Ev.pos d this
    · have := len_j7 n (by omega) 0 (by decide)
      rw [Nat.zero_add] at this
      exact Ev.neg d this
/-- The leading bit. -/
theorem lead_ev (x : E) : Ev (fun k => span_lead.f k (toS x)) (((blen (val x) : Nat) : Int) - 1) := by
  have h1 := hi_bd x
  have h2 := lo_bd x
  have hv := val_hl x
  unfold span_lead.f
  rw [toS_f0, toS_f1]
  obtain ⟨h, hh⟩ := Int.eq_ofNat_of_zero_le h1.1
  obtain ⟨l, hl⟩ := Int.eq_ofNat_of_zero_le h2.1
  rw [hh] at h1 hv ⊢
  rw [hl] at h2 hv ⊢
  rw [Int.toNat_natCast, Int.toNat_natCast] at hv
  by_cases c : (h : Int) = 0
  · refine Ev.pos c (Ev.bnd (Len64_ev l (by omega)) (Ev.ret' ?_))
    have : val x = l := by omega
    rw [this]
    have hb : blen l ≤ 64 := (blen_le l 64).2 (by omega)
    exact w64_id (by omega) (by omega)
  · refine Ev.neg c (Ev.bnd (Len64_ev h (by omega)) (Ev.ret' ?_))
    have hb : blen h ≤ 64 := (blen_le h 64).2 (by omega)
    have hs := blen_shift (val x) 64 (by omega)
    have hd : val x / 2 ^ 64 = h := by omega
    rw [hd] at hs
    rw [hs, w64_id (by omega) (by omega)]
    omega
/-- Do all elements have bits below n alone? -/
def InN (n : Nat) (X : List E) : Prop := ∀ x ∈ X, val x < 2 ^ n
instance (n : Nat) (X : List E) : Decidable (InN n X) := by unfold InN; infer_instance
theorem within_ev (n : Nat) (X : List E) (hX : X.length ≤ 4611686018427387904) : Ev (fun k => span_within.f k (X.map toS) (n : Int)) (decide (InN n X)) := by
  have hp : ∀ x, Ev (fun k => span_within_1.f k (toS x) (some (n : Int))) (decide (¬ val x < 2 ^ n)) := fun x => Ev.bnd (lead_ev x) (Ev.ret' (by
    have := blen_le (val x) n
    rw [decide_eq_decide]
    omega))
  obtain ⟨r, h1, h2⟩ := index_gen (P := fun x => val x < 2 ^ n) (l := fun k xs a n i => slices_IndexFunc77_c71.l2 k xs a n i) (p := span_within_1.f) (fun k xs n i => by rw [slices_IndexFunc77_c71.l2]) hp X hX X.length 0 (by omega)
  unfold span_within.f slices_ContainsFunc52_c71.f slices_IndexFunc77_c71.f
  rw [List.length_map]
  refine Ev.bnd (Ev.bnd h1 (Ev.ret _)) (Ev.ret' ?_)
  have h2 : r ≥ 0 ↔ ¬ InN n X := h2
  by_cases c : InN n X
  · rw [decide_eq_true c, decide_eq_false (fun g => (h2.1 g) c)]; rfl
  · rw [decide_eq_false c, decide_eq_true (h2.2 c)]; rfl
theorem towerBit_ev (n : Nat) (hn : n < 128) : Ev (fun k => tower_Bit.f k (n : Int)) (toS (bitE n)) := by
  obtain ⟨h1, h2⟩ := bitE_hl hn
  unfold tower_Bit.f
  refine Ev.pos (Int.natCast_nonneg _) ?_
  by_cases c : n < 64
  · refine Ev.pos (by omega) (Ev.pos (Int.natCast_nonneg _) (Ev.ret' ?_))
    unfold toS
    rw [h1, h2, if_pos c, if_pos c, shl_u64 n (by omega)]
  · refine Ev.neg (by omega) (Ev.step (fun k => by rw [tower_Bit.j3]) (Ev.pos (by omega) (Ev.pos (by omega) ?_)))
    have e : wrap64 ((n : Int) - 64) = ((n - 64 : Nat) : Int) := by rw [w64_id (by omega) (by omega)]; omega
    rw [e]
    refine Ev.pos (Int.natCast_nonneg _) (Ev.ret' ?_)
    unfold toS
    rw [h1, h2, if_neg c, if_neg c, shl_u64 (n - 64) (by omega)]
theorem spanHas_ev (x : E) (n : Nat) (hn : n < 128) : Ev (fun k => span_has.f k (toS x) (n : Int)) (hasB x n) := by
  unfold span_has.f
  refine Ev.bnd (towerBit_ev n hn) (Ev.ret' ?_)
  rw [toS_f0, toS_f1, toS_f0, toS_f1]
  exact hasBits x n hn
/-- Bits turned about, as far as one has come. -/
def turnN (X : List E) (m j : Nat) : E := sumN (fun i => pick (hasB (X.getD i 0) j) (bitE i)) m
def turnL (X : List E) (n : Nat) : List E := tabL n (turnN X X.length)
end Go.Proofs.Ytfmjodlcjaflfaa.Sp
namespace Go.Proofs.Ytfmjodlcjaflfaa.Sp
open Go.Proofs.Ytfmjodlcjaflfaa.V.B Go.RowKit Go.Proofs.Ytfmjodlcjaflfaa.B Go.Proofs.Ytfmjodlcjaflfaa.V.B.Ar Go.Proofs.Ytfmjodlcjaflfaa.V.B.Tw
set_option linter.unusedVariables false
set_option linter.unusedSimpArgs false
theorem blen_ld {x : E} (h : x ≠ 0) : blen (val x) = ld x + 1 := by
  have hv : val x ≠ 0 := fun e => h (val_eq_zero.1 e)
  unfold blen ld
  rw [if_neg hv]
theorem ld_lt (x : E) : ld x < 128 := by
  by_cases h : x = 0
  · subst h; unfold ld; rw [val_zero]; decide
  · have hv : val x ≠ 0 := fun e => h (val_eq_zero.1 e)
    have := val_lt x
    rw [Q_seven] at this
    exact (Nat.log2_lt hv).2 this
theorem lead_ne {x : E} (h : x ≠ 0) : Ev (fun k => span_lead.f k (toS x)) ((ld x : Nat) : Int) := by
  have := lead_ev x
  rw [blen_ld h] at this
  exact this.eqn (by omega)
theorem has_ev (x : E) {k : Nat} (h : k < 128) : Ev (fun q => span_has.f q (toS x) (k : Int)) (bitT x k) := spanHas_ev x k h
/-- An element without the leading bits of a basis. -/
theorem less_ev (R : List E) (hR : ∀ b ∈ R, b ≠ 0) (hn : R.length ≤ 1000000) (x : E) : Ev (fun k => span_less.f k (R.map toS) (toS x)) (toS (lessT R x)) := by
  unfold span_less.f
  rw [List.length_map]
  have key : ∀ (d i : Nat) (y : E), i + d = R.length → Ev (fun k => span_less.l2 k (R.map toS) (R.length : Int) (i : Int) (hi y) (lo y) 0 0) (toS (lessT (R.drop i) y)) := by
    intro d
    induction d with
    | zero =>
      intro i y hi'
      have : i = R.length := by omega
      subst this
      rw [List.drop_length]
      refine Ev.step (fun k => by rw [span_less.l2]) ?_
      exact Ev.neg (Int.lt_irrefl _) (Ev.ret' rfl)
    | succ d ih =>
      intro i y hi'
      have hlt : i < R.length := by omega
      have hd : R.drop i = R.getD i 0 :: R.drop (i + 1) := by rw [List.drop_eq_getElem_cons hlt, List.getD_eq_getElem?_getD, List.getElem?_eq_getElem hlt]; rfl
      have hne : R.getD i 0 ≠ 0 := hR _ (by rw [List.getD_eq_getElem?_getD, List.getElem?_eq_getElem hlt]; exact List.getElem_mem hlt)
      rw [hd, lessT]
      refine Ev.step (fun k => by rw [span_less.l2]) (Ev.pos (by omega) (Ev.ixS (by rw [List.length_map]; exact hlt) ?_))
      rw [rdS, w64_succ hlt (by omega)]
      refine Ev.bnd (lead_ne hne) (Ev.bnd (has_ev y (ld_lt _)) ?_)
      cases c : bitT y (ld (R.getD i 0)) with
      | true =>
        rw [if_pos rfl]
        exact Ev.pos rfl (Ev.bnd (Add_ev _ _) (ih (i + 1) _ (by omega)))
      | false =>
        rw [if_neg Bool.false_ne_true]
        exact Ev.neg Bool.false_ne_true (ih (i + 1) _ (by omega))
  have := key R.length 0 x (by omega)
  rw [List.drop_zero] at this
  exact this
end Go.Proofs.Ytfmjodlcjaflfaa.Sp
namespace Go.Proofs.Ytfmjodlcjaflfaa.Sp
open Go.Proofs.Ytfmjodlcjaflfaa.V.B Go.RowKit Go.Proofs.Ytfmjodlcjaflfaa.B Go.Proofs.Ytfmjodlcjaflfaa.V.B.Ar Go.Proofs.Ytfmjodlcjaflfaa.V.B.Tw
set_option linter.unusedVariables false
set_option linter.unusedSimpArgs false
/-- The trace of an element of a level. -/
def trE (l : Nat) (x : E) : E := sumN (fun i => sqn i x) (2 ^ l)
theorem trE_add (l : Nat) (x y : E) : trE l (x + y) = trE l x + trE l y := by
  unfold trE
  rw [← sumN_add]
  exact sumN_congr _ fun i _ => sqn_add x y i
theorem trE_zero (l : Nat) : trE l 0 = 0 := by
  unfold trE
  rw [sumN_congr (g := fun _ => (0 : E)) _ fun i _ => sqn_zero i]
  exact sumN_zero _
theorem sqn_shift (x : E) (i : Nat) : sqn i (x * x) = sqn (i + 1) x := by
  have := sqn_sqn x 1 i
  rw [Nat.add_comm 1 i] at this
  exact this
theorem sum_shift (f : Nat → E) : ∀ n, sumN f (n + 1) = f 0 + sumN (fun i => f (i + 1)) n
  | 0 => by rw [sumN, sumN, sumN, zero_add, add_zero]
  | n + 1 => by rw [sumN, sum_shift f n, sumN, add_assoc]
theorem sum_sq (f : Nat → E) : ∀ n, sumN f n * sumN f n = sumN (fun i => f i * f i) n
  | 0 => by rw [sumN, sumN, mul_zero]
  | n + 1 => by rw [sumN, sumN, add_sq, sum_sq f n]
theorem trE_sq {l : Nat} (hl : l ≤ 7) {x : E} (hx : InL l x) : trE l x * trE l x = trE l x := by
  have hf : sqn (2 ^ l) x = x := fermat_low hl hx
  have h1 : sumN (fun i => sqn i x) (2 ^ l + 1) = sqn 0 x + sumN (fun i => sqn (i + 1) x) (2 ^ l) := sum_shift _ _
  have h2 : sumN (fun i => sqn i x) (2 ^ l + 1) = sumN (fun i => sqn i x) (2 ^ l) + sqn (2 ^ l) x := by rw [sumN]
  have h0 : sqn 0 x = x := rfl
  unfold trE
  rw [sum_sq]
  show sumN (fun i => sqn (i + 1) x) (2 ^ l) = _
  rw [h1, hf, h0, add_comm _ x] at h2
  exact add_cancel_left h2
theorem trE_bit {l : Nat} (hl : l ≤ 7) {x : E} (hx : InL l x) : trE l x = 0 ∨ trE l x = 1 := by
  have h := trE_sq hl hx
  have h2 : trE l x * (trE l x + 1) = 0 := by rw [mul_add, h, mul_one, add_self]
  rcases mul_eq_zero h2 with g | g
  · exact .inl g
  · exact .inr (add_eq_zero g)
theorem one_ne0 : (1 : E) ≠ 0 := one_ne 7
/-- As the program reckons it. -/
theorem fits_ev {l : Nat} (hl : l ≤ 7) {x : E} (hx : InL l x) : Ev (fun k => frob_fits.f k (l : Int) 0 (toS x)) true := by
  have ho := of_ev (l : Int) x
  rw [decide_eq_true (ofS_in hl hx)] at ho
  unfold frob_fits.f
  exact Ev.bnd ho (Ev.pos rfl (Ev.pos (by decide) (Ev.ret' (decide_eq_true (by omega)))))
def tS (x : E) : T.S := ⟨hi x, lo x⟩
theorem traceSq_ev {l : Nat} (hl : l ≤ 7) {x : E} (hx : InL l x) : Ev (fun k => frob_Trace.sq k (l : Int) (tS x)) (tS (x * x)) := by
  obtain ⟨K, h⟩ := Square_ev hl hx
  refine ⟨K, fun k hk => ?_⟩
  unfold frob_Trace.sq
  have h2 : tower_Square.f k (l : Int) (toS x) = some (toS (x * x)) := h k hk
  show Option.map _ (tower_Square.f k (l : Int) (toS x)) = _
  rw [h2]; rfl
theorem iter1 (sq : T.S → Option T.S) (x : T.S) : T.iter sq 1 x = (sq x).bind fun y => some y := rfl
theorem go_succ (sq : T.S → Option T.S) (ad : T.S → T.S → T.S) (m n : Nat) (x o : T.S) : T.go sq ad m (n + 1) x o = (T.iter sq m x).bind fun y => T.go sq ad m n y (ad o x) := rfl
theorem ad_ev (x o : E) : frob_Trace.ad (tS o) (tS x) = tS (o + x) := by
  unfold frob_Trace.ad tS
  show (⟨bits .xor .u64 (hi o) (hi x), bits .xor .u64 (lo o) (lo x)⟩ : T.S) = _
  rw [xor_hi, xor_lo]
theorem traceGo_ev {l : Nat} (hl : l ≤ 7) (n : Nat) : ∀ (x o : E), InL l x → Ev (fun k => T.go (frob_Trace.sq k (l : Int)) frob_Trace.ad 1 n (tS x) (tS o)) (tS (o + sumN (fun i => sqn i x) n)) := by
  induction n with
  | zero =>
    intro x o _
    rw [sumN, add_zero]
    exact Ev.ret _
  | succ n ihn =>
    intro x o hx
    have ih := ihn (x * x) (o + x) (inL_mul hl hx hx)
    have e : o + x + sumN (fun i => sqn i (x * x)) n = o + sumN (fun i => sqn i x) (n + 1) := by
      rw [sum_shift, sumN_congr n fun i _ => sqn_shift x i, add_assoc]; rfl
    rw [e] at ih
    refine Ev.congr (fun k => by rw [go_succ, iter1, ad_ev]) ?_
    exact Ev.bnd (Ev.bnd (traceSq_ev hl hx) (Ev.ret _)) ih
theorem Trace_ev {l : Nat} (hl : l ≤ 7) {x : E} (hx : InL l x) : Ev (fun k => frob_Trace.f k (l : Int) 0 (toS x)) (toS (trE l x)) := by
  have hg := traceGo_ev hl (2 ^ l) x 0 hx
  rw [zero_add] at hg
  have ht : tS 0 = ⟨0, 0⟩ := by unfold tS; rw [hi_zero, lo_zero]
  rw [ht] at hg
  have e1 : (2 : Nat) ^ (0 : Int).toNat = 1 := rfl
  have e2 : (2 : Nat) ^ ((l : Int) - 0).toNat = 2 ^ l := by rw [show ((l : Int) - 0).toNat = l by omega]
  unfold frob_Trace.f
  refine Ev.bnd (fits_ev hl hx) (Ev.neg (by decide) (Ev.pos (by omega) ?_))
  rw [e1, e2]
  obtain ⟨K, h⟩ := hg
  refine ⟨K, fun k hk => ?_⟩
  have h2 : T.go (frob_Trace.sq k (l : Int)) frob_Trace.ad 1 (2 ^ l) (tS x) ⟨0, 0⟩ = some (tS (sumN (fun i => sqn i x) (2 ^ l))) := h k hk
  show Option.map _ (T.go (frob_Trace.sq k (l : Int)) frob_Trace.ad 1 (2 ^ l) (tS x) ⟨0, 0⟩) = _
  rw [h2]; rfl
theorem Ev.same {α : Type} {g : Nat → Option α} {r s : α} (h : Ev g r) (k : Ev g s) : r = s := by
  obtain ⟨a, h⟩ := h
  obtain ⟨b, k⟩ := k
  have h1 := h (a + b) (by omega)
  rw [k (a + b) (by omega)] at h1
  exact (Option.some.inj h1).symm
theorem Ev.at {α : Type} {g : Nat → Option α} {r : α} (K : Nat) (h : ∀ k, g (k + K) = some r) : Ev g r := ⟨K, fun k hk => by
  obtain ⟨d, rfl⟩ := Nat.le.dest hk
  rw [Nat.add_comm]; exact h d⟩
theorem tr0 : Ev (fun k => frob_Trace.f k 0 0 ⟨0, 1⟩) ⟨0, 1⟩ := Ev.at 100 fun k => by kernel_rfl
theorem tr1 : Ev (fun k => frob_Trace.f k 1 0 ⟨0, 2⟩) ⟨0, 1⟩ := Ev.at 100 fun k => by kernel_rfl
theorem tr2 : Ev (fun k => frob_Trace.f k 2 0 ⟨0, 4⟩) ⟨0, 1⟩ := Ev.at 100 fun k => by kernel_rfl
theorem tr3 : Ev (fun k => frob_Trace.f k 3 0 ⟨0, 16⟩) ⟨0, 1⟩ := Ev.at 100 fun k => by kernel_rfl
theorem tr4 : Ev (fun k => frob_Trace.f k 4 0 ⟨0, 256⟩) ⟨0, 1⟩ := Ev.at 100 fun k => by kernel_rfl
theorem tr5 : Ev (fun k => frob_Trace.f k 5 0 ⟨0, 65536⟩) ⟨0, 1⟩ := Ev.at 100 fun k => by kernel_rfl
end Go.Proofs.Ytfmjodlcjaflfaa.Sp
namespace Go.Proofs.Ytfmjodlcjaflfaa.Sp
open Go.Proofs.Ytfmjodlcjaflfaa.V.B Go.RowKit Go.Proofs.Ytfmjodlcjaflfaa.B Go.Proofs.Ytfmjodlcjaflfaa.V.B.Ar Go.Proofs.Ytfmjodlcjaflfaa.V.B.Tw
set_option linter.unusedVariables false
set_option linter.unusedSimpArgs false
theorem insT_take (y : E) : ∀ (R : List E) (j : Nat), j ≤ R.length → (∀ i, i < R.length → i < j → ¬ ld (R.getD i 0) < ld y) → (∀ i, i < R.length → j ≤ i → ld (R.getD i 0) < ld y) → insT y R = R.take j ++ y :: R.drop j
  | [], j, hj, _, _ => by
    have : j = 0 := by simpa using hj
    subst this; rfl
  | b :: R, 0, _, _, h2 => by
    have : ld b < ld y := h2 0 (by simp) (Nat.le_refl _)
    rw [insT, if_pos this]; rfl
  | b :: R, j + 1, hj, h1, h2 => by
    have : ¬ ld b < ld y := h1 0 (by simp) (by omega)
    rw [insT, if_neg this, insT_take y R j (by simpa using hj) (fun i hi hij => h1 (i + 1) (by simpa using hi) (by omega)) (fun i hi hij => h2 (i + 1) (by simpa using hi) (by omega))]
    rfl
theorem mid_get (R : List E) (y : E) (j : Nat) (hj : j ≤ R.length) : (R.take j ++ y :: R.drop j).getD j 0 = y := by
  rw [List.getD_eq_getElem?_getD, List.getElem?_append_right (by rw [List.length_take]; omega), List.length_take, Nat.min_eq_left hj, Nat.sub_self]; rfl
theorem mid_prev (R : List E) (y : E) (j : Nat) (hj : j < R.length) : (R.take (j + 1) ++ y :: R.drop (j + 1)).getD j 0 = R.getD j 0 := by
  rw [List.getD_eq_getElem?_getD, List.getD_eq_getElem?_getD, List.getElem?_append_left (by rw [List.length_take]; omega), List.getElem?_take, if_pos (by omega)]
theorem mid_swap (R : List E) (y : E) (j : Nat) (hj : j < R.length) : ((R.take (j + 1) ++ y :: R.drop (j + 1)).set (j + 1) (R.getD j 0)).set j y = R.take j ++ y :: R.drop j := by
  have h1 : R.take (j + 1) = R.take j ++ [R.getD j 0] := by
    rw [List.take_succ_eq_append_getElem hj, List.getD_eq_getElem?_getD, List.getElem?_eq_getElem hj]; rfl
  have h2 : R.drop j = R.getD j 0 :: R.drop (j + 1) := by
    rw [List.drop_eq_getElem_cons hj, List.getD_eq_getElem?_getD, List.getElem?_eq_getElem hj]; rfl
  have hl : (R.take j).length = j := by rw [List.length_take]; omega
  rw [h2, h1, List.append_assoc]
  rw [List.set_append_right _ _ (by omega), hl, Nat.add_sub_cancel_left]
  rw [List.set_append_right _ _ (by omega), hl, Nat.sub_self]
  rfl
/-- The last one moves to its place. -/
theorem sort_l4 {R : List E} (hf : R.Pairwise fun x y => ld y < ld x) (hne : ∀ b ∈ R, b ≠ 0) {y : E} (hy : y ≠ 0) (hn : R.length ≤ 1000000) : ∀ (j : Nat), j ≤ R.length → (∀ i, i < R.length → j ≤ i → ld (R.getD i 0) < ld y) →
    Ev (fun k => slices_insertionSortCmpFunc93_c90.l4 k 0 ((R.length + 1 : Nat) : Int) () (R.length : Int) (j : Int) ((R.take j ++ y :: R.drop j).map toS)) ((insT y R).map toS) := by
  have hll : ∀ j, j ≤ R.length → ((R.take j ++ y :: R.drop j).map toS).length = R.length + 1 := fun j hj => by
    rw [List.length_map, List.length_append, List.length_cons, List.length_take, List.length_drop]; omega
  have fin : ∀ L : List S34, Ev (fun k => slices_insertionSortCmpFunc93_c90.l1 k 0 ((R.length + 1 : Nat) : Int) () (wrap64 ((R.length : Int) + 1)) L) L := fun L => by
    have e : wrap64 ((R.length : Int) + 1) = ((R.length + 1 : Nat) : Int) := w64_succ (show R.length < R.length + 1 by omega) (by omega)
    rw [e]
    refine Ev.step (fun k => by rw [slices_insertionSortCmpFunc93_c90.l1]) ?_
    exact Ev.neg (Int.lt_irrefl _) (Ev.ret' rfl)
  have mem : ∀ i, i < R.length → R.getD i 0 ∈ R := fun i hi' => by
    rw [List.getD_eq_getElem?_getD, List.getElem?_eq_getElem hi']; exact List.getElem_mem hi'
  have sorted : ∀ i j, i < j → j < R.length → ld (R.getD j 0) < ld (R.getD i 0) := fun i j hij hj => by
    have := List.pairwise_iff_getElem.1 hf i j (by omega) hj hij
    rw [List.getD_eq_getElem?_getD, List.getD_eq_getElem?_getD, List.getElem?_eq_getElem hj, List.getElem?_eq_getElem (show i < R.length by omega)]
    exact this
  intro j
  induction j with
  | zero =>
    intro hj h
    rw [insT_take y R 0 hj (fun i _ hi => by omega) h]
    refine Ev.step (fun k => by rw [slices_insertionSortCmpFunc93_c90.l4]) ?_
    exact Ev.neg (by decide) (fin _)
  | succ j ih =>
    intro hj h
    have hlt : j < R.length := by omega
    have f0 : (((j + 1 : Nat) : Int)) > 0 := by omega
    have f1 : j + 1 < ((R.take (j + 1) ++ y :: R.drop (j + 1)).map toS).length := by rw [hll _ hj]; omega
    have f2 : j < ((R.take (j + 1) ++ y :: R.drop (j + 1)).map toS).length := by omega
    have f3 : j < (((R.take (j + 1) ++ y :: R.drop (j + 1)).map toS).set (Int.toNat ((j + 1 : Nat) : Int)) (toS (R.getD j 0))).length := by rw [List.length_set]; exact f2
    have hb := ld_lt (R.getD j 0)
    have hb2 := ld_lt y
    have ec : Ev (fun k => span_put_1.f k (toS y) (toS (R.getD j 0))) (((ld (R.getD j 0) : Nat) : Int) - ((ld y : Nat) : Int)) := by
      unfold span_put_1.f
      refine Ev.bnd (lead_ne (hne _ (mem j hlt))) (Ev.bnd (lead_ne hy) (Ev.ret' ?_))
      exact w64_id (by omega) (by omega)
    have e1 : wrap64 (((j + 1 : Nat) : Int) - 1) = (j : Int) := by rw [w64_id (by omega) (by omega)]; omega
    refine Ev.step (fun k => by rw [slices_insertionSortCmpFunc93_c90.l4]) ?_
    rw [e1]
    clear e1
    refine Ev.pos f0 (Ev.ixS f1 (Ev.ixS f2 ?_))
    rw [rdS, rdS, mid_get R y (j + 1) hj, mid_prev R y j hlt]
    refine Ev.bnd ec ?_
    by_cases c : ld (R.getD j 0) < ld y
    · refine Ev.pos (by omega) (Ev.ixS f2 (Ev.ixS f1 (Ev.ixS f1 (Ev.ixS f3 ?_))))
      rw [Int.toNat_natCast, Int.toNat_natCast, map_set, map_set, mid_swap R y j hlt]
      refine ih (by omega) fun i hi' hij => ?_
      by_cases g : i = j
      · rw [g]; exact c
      · exact h i hi' (by omega)
    · refine Ev.neg (by omega) ?_
      rw [insT_take y R (j + 1) hj (fun i hi' hij => ?_) h]
      · exact fin _
      · by_cases g : i = j
        · rw [g]; exact c
        · have := sorted i j (by omega) hlt
          omega
theorem sort_ev {R : List E} (hf : R.Pairwise fun x y => ld y < ld x) (hne : ∀ b ∈ R, b ≠ 0) {y : E} (hy : y ≠ 0) (hn : R.length ≤ 11) : Ev (fun k => slices_SortFunc89_c90.f k ((R ++ [y]).map toS) ()) ((insT y R).map toS) := by
  have hll : ((R ++ [y]).map toS).length = R.length + 1 := by rw [List.length_map, List.length_append, List.length_singleton]
  have sorted : ∀ i j, i < j → j < R.length → ld (R.getD j 0) < ld (R.getD i 0) := fun i j hij hj => by
    have := List.pairwise_iff_getElem.1 hf i j (by omega) hj hij
    rw [List.getD_eq_getElem?_getD, List.getD_eq_getElem?_getD, List.getElem?_eq_getElem hj, List.getElem?_eq_getElem (show i < R.length by omega)]
    exact this
  have mem : ∀ i, i < R.length → R.getD i 0 ∈ R := fun i hi' => by
    rw [List.getD_eq_getElem?_getD, List.getElem?_eq_getElem hi']; exact List.getElem_mem hi'
  have getA : ∀ i, i < R.length → (R ++ [y]).getD i 0 = R.getD i 0 := fun i hi' => by
    rw [List.getD_eq_getElem?_getD, List.getD_eq_getElem?_getD, List.getElem?_append_left hi']
  unfold slices_SortFunc89_c90.f slices_pdqsortCmpFunc91_c90.f
  rw [hll]
  have hlen : ∃ r : Int, Ev (fun k => math_bits_Len.f k (IntKind.u64.wrap ((R.length + 1 : Nat) : Int))) r := by
    refine ⟨((blen (R.length + 1) : Nat) : Int), ?_⟩
    rw [u64_id (by omega) (by omega)]
    unfold math_bits_Len.f
    exact Ev.bnd (Len64_ev (R.length + 1) (by omega)) (Ev.ret _)
  obtain ⟨r, hr⟩ := hlen
  have hw : wrap64 (((R.length + 1 : Nat) : Int) - 0) = ((R.length + 1 : Nat) : Int) := w64_id (by omega) (by omega)
  refine Ev.bnd hr (Ev.bnd (Ev.step (fun k => by rw [slices_pdqsortCmpFunc91_c90.l2]) ?_) (Ev.ret _))
  rw [hw]
  clear hw
  refine Ev.pos (by omega) (Ev.bnd ?_ (Ev.ret _))
  unfold slices_insertionSortCmpFunc93_c90.f
  have key : ∀ (d i : Nat), i + d = R.length → 1 ≤ i ∨ R.length = 0 → Ev (fun k => slices_insertionSortCmpFunc93_c90.l1 k 0 ((R.length + 1 : Nat) : Int) () (i : Int) ((R ++ [y]).map toS)) ((insT y R).map toS) := by
    intro d
    induction d with
    | zero =>
      intro i hi' _
      have : i = R.length := by omega
      subst this
      refine Ev.step (fun k => by rw [slices_insertionSortCmpFunc93_c90.l1]) (Ev.pos (by omega) ?_)
      have := sort_l4 hf hne hy (by omega) R.length (Nat.le_refl _) (fun i h1 h2 => by omega)
      rw [List.take_of_length_le (Nat.le_refl _), List.drop_length] at this
      exact this
    | succ d ih =>
      intro i hi' h1
      have hlt : i < R.length := by omega
      have hi1 : 1 ≤ i := by omega
      have hih := ih (i + 1) (by omega) (by omega)
      have f0 : (i : Int) < ((R.length + 1 : Nat) : Int) := by omega
      have f1 : i < ((R ++ [y]).map toS).length := by rw [hll]; omega
      have f2 : i - 1 < ((R ++ [y]).map toS).length := by omega
      have f3 : (i : Int) > 0 := by omega
      have hs := sorted (i - 1) i (by omega) hlt
      have hb := ld_lt (R.getD (i - 1) 0)
      have hb2 := ld_lt (R.getD i 0)
      have ec : Ev (fun k => span_put_1.f k (toS (R.getD i 0)) (toS (R.getD (i - 1) 0))) (((ld (R.getD (i - 1) 0) : Nat) : Int) - ((ld (R.getD i 0) : Nat) : Int)) := by
        unfold span_put_1.f
        refine Ev.bnd (lead_ne (hne _ (mem _ (by omega)))) (Ev.bnd (lead_ne (hne _ (mem _ hlt))) (Ev.ret' ?_))
        exact w64_id (by omega) (by omega)
      have e2 : wrap64 ((i : Int) + 1) = ((i + 1 : Nat) : Int) := w64_succ hlt (by omega)
      have e1 : wrap64 ((i : Int) - 1) = ((i - 1 : Nat) : Int) := by rw [w64_id (by omega) (by omega)]; omega
      refine Ev.step (fun k => by rw [slices_insertionSortCmpFunc93_c90.l1]) (Ev.pos f0 (Ev.step (fun k => by rw [slices_insertionSortCmpFunc93_c90.l4]) ?_))
      rw [e1, e2]
      clear e1 e2
      refine Ev.pos f3 (Ev.ixS f1 (Ev.ixS f2 ?_))
      rw [rdS, rdS, getA i hlt, getA (i - 1) (by omega)]
      exact Ev.bnd ec (Ev.neg (by omega) hih)
  have h01 : wrap64 ((0 : Int) + 1) = ((1 : Nat) : Int) := by decide +kernel
  rw [h01]
  by_cases hz : R.length = 0
  · have : R = [] := List.eq_nil_of_length_eq_zero hz
    subst this
    refine Ev.step (fun k => by rw [slices_insertionSortCmpFunc93_c90.l1]) ?_
    exact Ev.neg (by decide) (Ev.ret' rfl)
  · exact key (R.length - 1) 1 (by omega) (.inl (Nat.le_refl _))
theorem put_ev {R : List E} (hR : Red R) (hn : R.length ≤ 11) (x : E) : Ev (fun k => span_put.f k (R.map toS) (toS x)) ((Tw.putT R x).map toS) := by
  have hl := less_bit hR x
  unfold span_put.f Tw.putT
  refine Ev.bnd (less_ev R hR.ne (by omega) x) ?_
  by_cases c : lessT R x = 0
  · rw [if_pos c]
    exact Ev.pos ((eq_zero_iff _).1 c) (Ev.ret _)
  rw [if_neg c]
  refine Ev.neg (fun g => c ((eq_zero_iff _).2 g)) ?_
  generalize lessT R x = y at c hl
  rw [List.length_map]
  have hred := hR
  refine Ev.down (g := fun i k => span_put.l6 k (R.map toS) (R.length : Int) (i : Int) (hi y) (lo y) (((R.take i).map (clrT y)).map toS)) (n := R.length) ?_ fun i hi' hih => ?_
  · rw [List.take_of_length_le (Nat.le_refl _)]
    refine Ev.step (fun k => by rw [span_put.l6]) (Ev.neg (Int.lt_irrefl _) (Ev.pos (by rw [List.length_map, List.length_map, List.length_singleton]; omega) ?_))
    have hlead : ∀ b ∈ R, ld (clrT y b) = ld b ∧ clrT y b ≠ 0 := fun b hb => clr_ld (hR.ne b hb) (hl b hb)
    have hf : (R.map (clrT y)).Pairwise fun x y => ld y < ld x := by
      rw [List.pairwise_map]
      refine hR.fall.imp_of_mem fun {a b} ha hb h => ?_
      rw [(hlead a ha).1, (hlead b hb).1]; exact h
    have hne : ∀ b ∈ R.map (clrT y), b ≠ 0 := fun b hb => by
      obtain ⟨a, ha, rfl⟩ := List.mem_map.1 hb
      exact (hlead a ha).2
    have := sort_ev hf hne c (by rw [List.length_map]; exact hn)
    rw [List.map_append] at this
    exact Ev.bnd this (Ev.ret _)
  · have hmem : R.getD i 0 ∈ R := by
      rw [List.getD_eq_getElem?_getD, List.getElem?_eq_getElem hi']; exact List.getElem_mem hi'
    have ht : R.take (i + 1) = R.take i ++ [R.getD i 0] := by
      rw [List.take_succ_eq_append_getElem hi', List.getD_eq_getElem?_getD, List.getElem?_eq_getElem hi']; rfl
    have f0 : (i : Int) < (R.length : Int) := by omega
    have f3 : (((R.take i).map (clrT y)).map toS).length + 1 ≤ 140737488355328 / 16 := by rw [List.length_map, List.length_map, List.length_take]; omega
    rw [ht, List.map_append, List.map_append] at hih
    refine Ev.step (fun k => by rw [span_put.l6]) (Ev.pos f0 (Ev.ixS (by rw [List.length_map]; exact hi') (Ev.bnd (lead_ne c) ?_)))
    rw [rdS, w64_succ hi' (by omega)]
    refine Ev.bnd (has_ev _ (ld_lt y)) ?_
    have hc : clrT y (R.getD i 0) = if bitT (R.getD i 0) (ld y) = true then R.getD i 0 + y else R.getD i 0 := rfl
    have hih : Ev (fun k => span_put.l6 k (R.map toS) (R.length : Int) ((i + 1 : Nat) : Int) (hi y) (lo y) (((R.take i).map (clrT y)).map toS ++ [toS (clrT y (R.getD i 0))])) _ := hih
    rw [hc] at hih
    cases g : bitT (R.getD i 0) (ld y) with
    | true =>
      rw [g, if_pos rfl] at hih
      exact Ev.pos rfl (Ev.bnd (Add_ev _ _) (Ev.pos f3 hih))
    | false =>
      rw [g, if_neg Bool.false_ne_true] at hih
      exact Ev.neg Bool.false_ne_true (Ev.pos f3 hih)
theorem Basis_ev (X : List E) (hX : X.length ≤ 12) : Ev (fun k => span_Basis.f k (X.map toS)) ((basT X).map toS) := by
  unfold span_Basis.f
  rw [List.length_map]
  refine Ev.down (g := fun i k => span_Basis.l3 k ((basT (X.take i)).map toS) (X.map toS) (X.length : Int) (i : Int)) (n := X.length) ?_ fun i hi' hih => ?_
  · rw [List.take_of_length_le (Nat.le_refl _)]
    refine Ev.step (fun k => by rw [span_Basis.l3]) ?_
    exact Ev.neg (Int.lt_irrefl _) (Ev.ret' rfl)
  · have ht : X.take (i + 1) = X.take i ++ [X.getD i 0] := by
      rw [List.take_succ_eq_append_getElem hi', List.getD_eq_getElem?_getD, List.getElem?_eq_getElem hi']; rfl
    have hr := rank_le (X.take i)
    rw [List.length_take] at hr
    rw [ht, bas_snoc] at hih
    refine Ev.step (fun k => by rw [span_Basis.l3]) (Ev.pos (by omega) (Ev.ixS (by rw [List.length_map]; exact hi') ?_))
    rw [rdS, w64_succ hi' (by omega)]
    exact Ev.bnd (put_ev (bas_red _) (by omega) _) hih
theorem Rank_ev (X : List E) (hX : X.length ≤ 12) : Ev (fun k => span_Rank.f k (X.map toS)) (((basT X).length : Nat) : Int) := by
  unfold span_Rank.f
  exact Ev.bnd (Basis_ev X hX) (Ev.ret' (by rw [List.length_map]))
end Go.Proofs.Ytfmjodlcjaflfaa.Sp
namespace Go.Proofs.Ytfmjodlcjaflfaa.Sp
open Go.Proofs.Ytfmjodlcjaflfaa.V.B Go.RowKit Go.Proofs.Ytfmjodlcjaflfaa.B Go.Proofs.Ytfmjodlcjaflfaa.V.B.Ar Go.Proofs.Ytfmjodlcjaflfaa.V.B.Tw
set_option linter.unusedVariables false
set_option linter.unusedSimpArgs false
theorem refHas_ev (x : E) {k : Nat} (h : k < 128) : Ev (fun q => steepleref02_Has.f q (toR x) (k : Int)) (bitT x k) := Has_ev x k h
def tI (t : List Nat) : List Int := t.map fun r : Nat => (r : Int)
theorem tI_length (t : List Nat) : (tI t).length = t.length := List.length_map ..
theorem rdI_tI (t : List Nat) (j : Nat) : rdI (tI t) (j : Int) = ((t.getD j 0 : Nat) : Int) := by
  unfold rdI tI
  rw [Int.toNat_natCast, List.getD_eq_getElem?_getD, List.getD_eq_getElem?_getD, List.getElem?_map]
  cases t[j]? <;> rfl
theorem rowE (R : List E) (i : Nat) : R.getD i 0 = row R i := rfl
theorem bitT_top (x : E) (k : Nat) (h : 128 ≤ k) : bitT x k = false := by
  have hv := val_lt x
  rw [Q_seven] at hv
  exact Nat.testBit_lt_two_pow (Nat.lt_of_lt_of_le hv (Nat.pow_le_pow_right (by decide) h))
end Go.Proofs.Ytfmjodlcjaflfaa.Sp
namespace Go.Proofs.Ytfmjodlcjaflfaa.Sp
open Go.Proofs.Ytfmjodlcjaflfaa.V.B Go.RowKit Go.Proofs.Ytfmjodlcjaflfaa.B Go.Proofs.Ytfmjodlcjaflfaa.V.B.Ar Go.Proofs.Ytfmjodlcjaflfaa.V.B.Tw
set_option linter.unusedVariables false
set_option linter.unusedSimpArgs false
abbrev EV := E × List Bool
@[reducible] def toK (a : EV) : S105 := ⟨toS a.1, a.2⟩
theorem rdK (K : List EV) (i : Nat) : rd105 (K.map toK) (i : Int) = toK (K.getD i (0, [])) := by
  unfold rd105
  have hz : z105 = toK (0, []) := by
    show (⟨z34, []⟩ : S105) = ⟨toS 0, []⟩
    rw [toS_zero]
  rw [Int.toNat_natCast, hz, List.getD_eq_getElem?_getD, List.getD_eq_getElem?_getD, List.getElem?_map]
  cases K[i]? <;> rfl
theorem rdB_get (v : List Bool) (i : Nat) : rdB v (i : Int) = v.getD i false := by
  unfold rdB; rw [Int.toNat_natCast]
theorem nd_xor (a b : Bool) : (!decide (a = b)) = (a ^^ b) := by cases a <;> cases b <;> rfl
theorem flip_ev (v w : List Bool) (h : v.length ≤ w.length) (hn : v.length ≤ 1000000) : Ev (fun k => span_flip.f k v w) (flipV v w) := by
  unfold span_flip.f
  suffices key : ∀ d i, i + d = v.length → ∀ u : List Bool, u.length = v.length → (∀ j, j < v.length → u.getD j false = if j < i then (v.getD j false ^^ w.getD j false) else v.getD j false) → Ev (fun k => span_flip.l1 k w (v.length : Int) (i : Int) u) (flipV v w) from key v.length 0 (by omega) v rfl fun j _ => (if_neg (Nat.not_lt_zero j)).symm
  intro d
  induction d with
  | zero =>
    intro i hid u hu h2
    refine Ev.step (fun q => by rw [span_flip.l1]) (Ev.neg (by omega) (Ev.ret' ?_))
    apply List.ext_getElem
    · rw [hu, flip_length]
    · intro j h1 h3
      have := h2 j (by omega)
      rw [if_pos (by omega), ← flip_get v w (by omega), List.getD_eq_getElem?_getD, List.getD_eq_getElem?_getD, List.getElem?_eq_getElem h1, List.getElem?_eq_getElem h3] at this
      exact this
  | succ d ih =>
    intro i hid u hu h2
    have hil : i < v.length := by omega
    have f0 : (i : Int) < (v.length : Int) := by omega
    have f1 : i < u.length := by omega
    have f2 : i < w.length := by omega
    have e := h2 i hil
    rw [if_neg (Nat.lt_irrefl i)] at e
    refine Ev.step (fun q => by rw [span_flip.l1]) (Ev.pos f0 (Ev.ixS f1 (Ev.ixS f2 (Ev.ixS f1 ?_))))
    rw [rdB_get, rdB_get, nd_xor, e, w64_succ hil (by omega), Int.toNat_natCast]
    refine ih (i + 1) (by omega) _ (by rw [List.length_set]; exact hu) fun j hj => ?_
    by_cases c : j = i
    · subst c
      rw [List.getD_eq_getElem?_getD, List.getElem?_set_self f1, if_pos (Nat.lt_succ_self j)]; rfl
    · rw [List.getD_eq_getElem?_getD, List.getElem?_set_ne (fun e => c e.symm), ← List.getD_eq_getElem?_getD, h2 j hj]
      by_cases d : j < i
      · rw [if_pos d, if_pos (by omega)]
      · rw [if_neg d, if_neg (by omega)]
theorem dropK {K : List EV} {i : Nat} (h : i < K.length) : K.drop i = K.getD i (0, []) :: K.drop (i + 1) := by
  rw [List.drop_eq_getElem_cons h, List.getD_eq_getElem?_getD, List.getElem?_eq_getElem h]; rfl
theorem getK_mem {K : List EV} {i : Nat} (h : i < K.length) : K.getD i (0, []) ∈ K := by
  rw [List.getD_eq_getElem?_getD, List.getElem?_eq_getElem h]; exact List.getElem_mem h
/-- One row through the rows kept. -/
theorem l8_ev {N : Nat} (hN : N ≤ 1000) (K : List EV) (hK : K.length ≤ 1000) (hne : ∀ a ∈ K, a.1 ≠ 0) (hl : ∀ a ∈ K, a.2.length = N) (X XS : List S34) (m i h' l' : Int) {R : List Bool × Bool} {p : EV}
    (h : Ev (fun k => span_Solve.l8 k X XS m i (K.length : Int) (K.length : Int) h' l' (K.map toK) (hi (redV K p).1) (lo (redV K p).1) (redV K p).2) R) (hp : p.2.length = N) :
    Ev (fun k => span_Solve.l8 k X XS m i (K.length : Int) 0 h' l' (K.map toK) (hi p.1) (lo p.1) p.2) R := by
  suffices key : ∀ d j, j + d = K.length → ∀ q : EV, q.2.length = N → redV (K.drop j) q = redV K p → Ev (fun k => span_Solve.l8 k X XS m i (K.length : Int) (j : Int) h' l' (K.map toK) (hi q.1) (lo q.1) q.2) R from key K.length 0 (by omega) p hp rfl
  intro d
  induction d with
  | zero =>
    intro j hj q hq e
    have : j = K.length := by omega
    subst this
    rw [List.drop_length] at e
    rw [redV_nil] at e
    rw [e]; exact h
  | succ d ih =>
    intro j hj q hq e
    have hjl : j < K.length := by omega
    have f0 : (j : Int) < (K.length : Int) := by omega
    have f1 : j < (K.map toK).length := by rw [List.length_map]; exact hjl
    have hm := getK_mem hjl
    rw [dropK hjl, redV_cons] at e
    refine Ev.step (fun k => by rw [span_Solve.l8]) (Ev.pos f0 (Ev.ixS f1 ?_))
    rw [rdK, w64_succ hjl (by omega)]
    refine Ev.bnd (lead_ne (hne _ hm)) (Ev.bnd (has_ev q.1 (ld_lt _)) ?_)
    by_cases c : bitT q.1 (ld (K.getD j (0, [])).1) = true
    · rw [if_pos c] at e
      refine Ev.pos c (Ev.bnd (Add_ev q.1 _) (Ev.bnd (flip_ev q.2 _ (by rw [hq, hl _ hm]; exact Nat.le_refl _) (by omega)) ?_))
      exact ih (j + 1) (by omega) (q.1 + (K.getD j (0, [])).1, flipV q.2 (K.getD j (0, [])).2) (by rw [flip_length]; exact hq) e
    · rw [if_neg c] at e
      exact Ev.neg c (ih (j + 1) (by omega) q hq e)
theorem l19_ev {N : Nat} (hN : N ≤ 1000) (K : List EV) (hK : K.length ≤ 1000) (hne : ∀ a ∈ K, a.1 ≠ 0) (hl : ∀ a ∈ K, a.2.length = N) (p : EV) (hp : p.2.length = N) :
    Ev (fun k => span_Solve.l19 k (K.length : Int) 0 (hi p.1) (lo p.1) p.2 (K.map toK)) (if (redV K p).1 = 0 then ((redV K p).2, true) else ([], false)) := by
  suffices key : ∀ d j, j + d = K.length → ∀ q : EV, q.2.length = N → redV (K.drop j) q = redV K p → Ev (fun k => span_Solve.l19 k (K.length : Int) (j : Int) (hi q.1) (lo q.1) q.2 (K.map toK)) (if (redV K p).1 = 0 then ((redV K p).2, true) else ([], false)) from key K.length 0 (by omega) p hp rfl
  intro d
  induction d with
  | zero =>
    intro j hj q hq e
    have : j = K.length := by omega
    subst this
    rw [List.drop_length] at e
    rw [redV_nil] at e
    rw [e]
    refine Ev.step (fun k => by rw [span_Solve.l19]) (Ev.neg (Int.lt_irrefl _) ?_)
    by_cases c : (redV K p).1 = 0
    · rw [if_pos c]
      exact Ev.pos ((eq_zero_iff _).1 c) (Ev.ret _)
    · rw [if_neg c]
      exact Ev.neg (fun g => c ((eq_zero_iff _).2 g)) (Ev.ret _)
  | succ d ih =>
    intro j hj q hq e
    have hjl : j < K.length := by omega
    have f0 : (j : Int) < (K.length : Int) := by omega
    have f1 : j < (K.map toK).length := by rw [List.length_map]; exact hjl
    have hm := getK_mem hjl
    rw [dropK hjl, redV_cons] at e
    refine Ev.step (fun k => by rw [span_Solve.l19]) (Ev.pos f0 (Ev.ixS f1 ?_))
    rw [rdK, w64_succ hjl (by omega)]
    refine Ev.bnd (lead_ne (hne _ hm)) (Ev.bnd (has_ev q.1 (ld_lt _)) ?_)
    by_cases c : bitT q.1 (ld (K.getD j (0, [])).1) = true
    · rw [if_pos c] at e
      refine Ev.pos c (Ev.bnd (Add_ev q.1 _) (Ev.bnd (flip_ev q.2 _ (by rw [hq, hl _ hm]; exact Nat.le_refl _) (by omega)) ?_))
      exact ih (j + 1) (by omega) (q.1 + (K.getD j (0, [])).1, flipV q.2 (K.getD j (0, [])).2) (by rw [flip_length]; exact hq) e
    · rw [if_neg c] at e
      exact Ev.neg c (ih (j + 1) (by omega) q hq e)
/-- The one answer: new rows alone, and their sum is the target. -/
structure Sol (X : List E) (t : E) (v : List Bool) : Prop where
  len : v.length = X.length
  sup : ∀ j, vf v j = true → Piv X j
  sum : cm X (vf v) X.length = t
theorem Sol.uniq {X : List E} {t : E} {v w : List Bool} (hv : Sol X t v) (hw : Sol X t w) : v = w := by
  have h := cm_uniq X X.length (Nat.le_refl _) (fun i _ => hv.sup i) (fun i _ => hw.sup i) (hv.sum.trans hw.sum.symm)
  apply List.ext_getElem (hv.len.trans hw.len.symm)
  intro i h1 h2
  have := h i (by rw [← hv.len]; exact h1)
  unfold vf at this
  rwa [List.getD_eq_getElem?_getD, List.getD_eq_getElem?_getD, List.getElem?_eq_getElem h1, List.getElem?_eq_getElem h2] at this
theorem Sol.sp {X : List E} {t : E} {v : List Bool} (h : Sol X t v) : InSp X t := by
  have := cm_sp X (vf v) X.length (Nat.le_refl _)
  rw [h.sum, List.take_of_length_le (Nat.le_refl _)] at this
  exact this
theorem Solve_ev (X : List E) (hX : X.length ≤ 200) (t : E) : ∃ v : List Bool, ∃ b : Bool, Ev (fun k => span_Solve.f k (X.map toS) (toS t)) (v, b) ∧ ((b = true ∧ Sol X t v) ∨ (b = false ∧ v = [] ∧ ¬ InSp X t)) := by
  suffices key : ∀ d i, i + d = X.length → ∀ K : List EV, Ways X i K → K.length ≤ i → ∃ v : List Bool, ∃ b : Bool, Ev (fun k => span_Solve.l3 k (X.map toS) (X.map toS) (X.length : Int) (i : Int) (hi t) (lo t) (K.map toK)) (v, b) ∧ ((b = true ∧ Sol X t v) ∨ (b = false ∧ v = [] ∧ ¬ InSp X t)) by
    obtain ⟨v, b, h1, h2⟩ := key X.length 0 (by omega) [] (Ways.start X) (Nat.le_refl _)
    refine ⟨v, b, ?_, h2⟩
    unfold span_Solve.f
    rw [List.length_map]
    exact h1
  have fl : (X.length : Int) ≤ 140737488355328 / ((1 : Nat) : Int) := by omega
  intro d
  induction d with
  | zero =>
    intro i hid K w hK
    have : i = X.length := by omega
    subst this
    obtain ⟨a1, a2, a3, a4⟩ := w.answer t
    have hne : ∀ a ∈ K, a.1 ≠ 0 := fun a ha => w.tri.2 _ (List.mem_map.2 ⟨a, ha, rfl⟩)
    have ev := l19_ev (N := X.length) (by omega) K (by omega) hne w.len (t, List.replicate X.length false) List.length_replicate
    have go : ∀ {r : List Bool × Bool}, Ev (fun k => span_Solve.l19 k (K.length : Int) 0 (hi t) (lo t) (List.replicate X.length false) (K.map toK)) r → Ev (fun k => span_Solve.l3 k (X.map toS) (X.map toS) (X.length : Int) (X.length : Int) (hi t) (lo t) (K.map toK)) r := fun h => by
      refine Ev.step (fun k => by rw [span_Solve.l3]) (Ev.neg (Int.lt_irrefl _) ?_)
      rw [List.length_map, List.length_map, Int.toNat_natCast]
      exact Ev.pos (Int.natCast_nonneg _) (Ev.pos fl h)
    by_cases c : (redV K (t, List.replicate X.length false)).1 = 0
    · rw [if_pos c] at ev
      refine ⟨_, _, go ev, .inl ⟨rfl, a2, a3, ?_⟩⟩
      rw [c, zero_add] at a4
      exact a4
    · rw [if_neg c] at ev
      exact ⟨_, _, go ev, .inr ⟨rfl, rfl, fun g => c (a1.2 g)⟩⟩
  | succ d ih =>
    intro i hid K w hK
    have hil : i < X.length := by omega
    have f0 : (i : Int) < (X.length : Int) := by omega
    have f1 : i < (X.map toS).length := by rw [List.length_map]; exact hil
    have f2 : i < (List.replicate X.length false).length := by rw [List.length_replicate]; exact hil
    have hne : ∀ a ∈ K, a.1 ≠ 0 := fun a ha => w.tri.2 _ (List.mem_map.2 ⟨a, ha, rfl⟩)
    have ws := w.step hil
    have hu : (List.replicate X.length false).set i true = unitV X.length i := by unfold unitV; exact rfl
    have go : ∀ {r : List Bool × Bool}, Ev (fun k => span_Solve.l8 k (X.map toS) (X.map toS) (X.length : Int) (i : Int) (K.length : Int) (K.length : Int) (hi t) (lo t) (K.map toK) (hi (redV K (row X i, unitV X.length i)).1) (lo (redV K (row X i, unitV X.length i)).1) (redV K (row X i, unitV X.length i)).2) r → Ev (fun k => span_Solve.l3 k (X.map toS) (X.map toS) (X.length : Int) (i : Int) (hi t) (lo t) (K.map toK)) r := fun h => by
      refine Ev.step (fun k => by rw [span_Solve.l3]) (Ev.pos f0 (Ev.ixS f1 ?_))
      rw [List.length_map, List.length_map, Int.toNat_natCast, rdS]
      refine Ev.pos (Int.natCast_nonneg _) (Ev.pos fl (Ev.ixS f2 ?_))
      rw [Int.toNat_natCast, hu, rowE]
      exact l8_ev (N := X.length) (p := (row X i, unitV X.length i)) (by omega) K (by omega) hne w.len _ _ _ _ _ _ h (unit_length _ _)
    by_cases c : (redV K (row X i, unitV X.length i)).1 = 0
    · rw [if_pos c] at ws
      obtain ⟨v, b, h1, h2⟩ := ih (i + 1) (by omega) K ws (by omega)
      refine ⟨v, b, go ?_, h2⟩
      refine Ev.step (fun k => by rw [span_Solve.l8]) (Ev.neg (Int.lt_irrefl _) (Ev.pos ((eq_zero_iff _).1 c) ?_))
      rw [w64_succ hil (by omega)]
      exact h1
    · rw [if_neg c] at ws
      obtain ⟨v, b, h1, h2⟩ := ih (i + 1) (by omega) _ ws (by rw [List.length_append, List.length_singleton]; omega)
      refine ⟨v, b, go ?_, h2⟩
      have f3 : ∀ z : S105, (K.map toK).length + [z].length ≤ 140737488355328 / 40 := fun z => by rw [List.length_map, List.length_singleton]; omega
      rw [List.map_append] at h1
      refine Ev.step (fun k => by rw [span_Solve.l8]) (Ev.neg (Int.lt_irrefl _) (Ev.neg (fun g => c ((eq_zero_iff _).2 g)) (Ev.pos (f3 _) ?_)))
      rw [w64_succ hil (by omega)]
      exact h1
end Go.Proofs.Ytfmjodlcjaflfaa.Sp
namespace Go.Proofs.Ytfmjodlcjaflfaa.Sp
open Go.Proofs.Ytfmjodlcjaflfaa.V.B Go.RowKit Go.Proofs.Ytfmjodlcjaflfaa.B Go.Proofs.Ytfmjodlcjaflfaa.V.B.Ar Go.Proofs.Ytfmjodlcjaflfaa.V.B.Tw
set_option linter.unusedVariables false
set_option linter.unusedSimpArgs false
theorem fall_len : ∀ (R : List E) (m : Nat), (R.Pairwise fun x y => ld y < ld x) → (∀ b ∈ R, ld b < m) → R.length ≤ m
  | [], m, _, _ => Nat.zero_le _
  | a :: R, m, h, hb => by
    have ha := hb a List.mem_cons_self
    have := fall_len R (ld a) (List.pairwise_cons.1 h).2 (List.pairwise_cons.1 h).1
    rw [List.length_cons]; omega
theorem fall_all : ∀ (R : List E) (m : Nat), (R.Pairwise fun x y => ld y < ld x) → (∀ b ∈ R, ld b < m) → R.length = m → ∀ k, k < m → ∃ b ∈ R, ld b = k
  | [], m, _, _, hl, k, hk => by rw [List.length_nil] at hl; omega
  | a :: R, m, h, hb, hl, k, hk => by
    have ha := hb a List.mem_cons_self
    have h1 := fall_len R (ld a) (List.pairwise_cons.1 h).2 (List.pairwise_cons.1 h).1
    rw [List.length_cons] at hl
    by_cases c : k = ld a
    · exact ⟨a, List.mem_cons_self, c.symm⟩
    · obtain ⟨b, hb', e⟩ := fall_all R (ld a) (List.pairwise_cons.1 h).2 (List.pairwise_cons.1 h).1 (by omega) k (by omega)
      exact ⟨b, List.mem_cons_of_mem _ hb', e⟩
theorem bitB (k : Nat) (h : k < 128) (i : Nat) : bitT (bitE k) i = decide (i = k) := by
  unfold bitT
  rw [show val (bitE k) = 2 ^ k from val_of 7 _ (by rw [Q_seven]; exact Nat.pow_lt_pow_right (by decide) h), Nat.testBit_two_pow]
  by_cases c : k = i
  · rw [decide_eq_true c, decide_eq_true c.symm]
  · rw [decide_eq_false c, decide_eq_false fun e => c e.symm]
theorem inN_bit {n : Nat} {x : E} : val x < 2 ^ n ↔ ∀ k, n ≤ k → bitT x k = false := by
  constructor
  · intro h k hk
    exact Nat.testBit_lt_two_pow (Nat.lt_of_lt_of_le h (Nat.pow_le_pow_right (by decide) hk))
  · intro h
    exact Nat.lt_pow_two_of_testBit _ fun i hi => h i hi
def unU (n : Nat) : List E := (List.range n).map bitE
theorem unU_length (n : Nat) : (unU n).length = n := by unfold unU; rw [List.length_map, List.length_range]
theorem unU_row {n i : Nat} (h : i < n) : row (unU n) i = bitE i := by
  unfold row unU
  rw [List.getD_eq_getElem?_getD, List.getElem?_map, List.getElem?_range h]; rfl
theorem cmU_bit {n : Nat} (hn : n ≤ 128) (w : Nat → Bool) : ∀ k, k ≤ n → ∀ i, bitT (cm (unU n) w k) i = (decide (i < k) && w i)
  | 0, _, i => by
    show bitT (0 : E) i = _
    rw [bitT_zero]; rfl
  | k + 1, hk, i => by
    rw [cm, bitT_add, cmU_bit hn w k (by omega) i, unU_row (show k < n by omega)]
    by_cases c : i = k
    · subst c
      rw [decide_eq_false (Nat.lt_irrefl i), decide_eq_true (Nat.lt_succ_self i)]
      cases h : w i
      · rw [if_neg Bool.false_ne_true, bitT_zero]; rfl
      · rw [if_pos rfl, bitB i (by omega), decide_eq_true rfl]; rfl
    · have e : decide (i < k + 1) = decide (i < k) := by rw [decide_eq_decide]; omega
      rw [e]
      have e2 : bitT (if w k = true then bitE k else 0) i = false := by
        by_cases d : w k = true
        · rw [if_pos d, bitB k (by omega), decide_eq_false c]
        · rw [if_neg d, bitT_zero]
      rw [e2, Bool.xor_false]
theorem cmU_self {n : Nat} (hn : n ≤ 128) {x : E} (hx : val x < 2 ^ n) : cm (unU n) (bitT x) n = x := bitT_ext fun i => by
  rw [cmU_bit hn _ n (Nat.le_refl _)]
  by_cases c : i < n
  · rw [decide_eq_true c, Bool.true_and]
  · rw [decide_eq_false c, Bool.false_and, inN_bit.1 hx i (by omega)]
theorem rank_all {X : List E} {n : Nat} (hn : n ≤ 128) (hX : InN n X) (hl : X.length = n) : (basT X).length = n ↔ ∀ j, j < n → InSp X (bitE j) := by
  have spb : ∀ {x : E}, InSp X x → ∀ k, n ≤ k → bitT x k = false := fun h k hk => inSp_bit (fun a ha => inN_bit.1 (hX a ha) k hk) h
  constructor
  · intro h j hj
    have hR := bas_red X
    have hb : ∀ b ∈ basT X, ∀ k, n ≤ k → bitT b k = false := fun b hb => spb ((bas_sp X b).1 (InSp.mem hb))
    have hld : ∀ b ∈ basT X, ld b < n := fun b hb' => by
      apply Classical.byContradiction
      intro g
      have := hb b hb' (ld b) (by omega)
      rw [ld_bit (hR.ne b hb')] at this
      cases this
    have all := fall_all (basT X) n hR.fall hld h
    rw [← bas_sp X, ← less_zero hR]
    refine bitT_ext fun k => ?_
    rw [bitT_zero]
    by_cases c : k < n
    · obtain ⟨b, hb1, hb2⟩ := all k c
      rw [← hb2]
      exact less_bit hR _ b hb1
    · have h1 := inSp_bit (fun a ha => hb a ha k (by omega)) (less_sp (basT X) (bitE j))
      rw [bitT_add, bitB j (by omega), decide_eq_false (by omega), Bool.xor_false] at h1
      exact h1
  · intro h
    have hu : ∀ a ∈ unU n, InSp X a := fun a ha => by
      obtain ⟨i, hi', rfl⟩ := List.mem_map.1 ha
      exact h i (List.mem_range.1 hi')
    have hx : ∀ a ∈ X, InSp (unU n) a := fun a ha => by
      have := cm_sp (unU n) (bitT a) n (by rw [unU_length]; exact Nat.le_refl _)
      rw [cmU_self hn (hX a ha), List.take_of_length_le (by rw [unU_length]; exact Nat.le_refl _)] at this
      exact this
    have e : basT X = basT (unU n) := Red.uniq (bas_red X) (bas_red _) fun x => by
      rw [bas_sp, bas_sp]
      exact ⟨InSp.of hx, InSp.of hu⟩
    have e2 : (basT (unU n)).length = (unU n).length := (rank_eq _).2 fun i hi' => by
      intro g
      rw [unU_length] at hi'
      have h1 : bitT ((unU n)[i]'(by rw [unU_length]; exact hi')) i = false := inSp_bit (fun a ha => by
        obtain ⟨q, hq, rfl⟩ := List.getElem_of_mem ha
        rw [List.length_take, unU_length] at hq
        rw [List.getElem_take]
        have : (unU n)[q]'(by rw [unU_length]; omega) = bitE q := by unfold unU; simp
        rw [this, bitB q (by omega), decide_eq_false (by omega)]) g
      have : (unU n)[i]'(by rw [unU_length]; exact hi') = bitE i := by unfold unU; simp
      rw [this, bitB i (by omega), decide_eq_true rfl] at h1
      cases h1
    rw [e, e2, unU_length]
theorem back_l14 (X : List S34) {n : Nat} (hn : n ≤ 128) (j : Nat) (hj : j < n) (out : List E) (ho : out.length = j) (v : List Bool) (hv : v.length = n) {R : List S34 × Int}
    (h : Ev (fun k => span_Back.l7 k X (n : Int) ((j + 1 : Nat) : Int) ((out ++ [cm (unU n) (vf v) n]).map toS)) R) :
    Ev (fun k => span_Back.l14 k X (n : Int) (j : Int) (v.length : Int) 0 (out.map toS) 0 0 v) R := by
  rw [hv]
  suffices key : Ev (fun k => span_Back.l14 k X (n : Int) (j : Int) (n : Int) ((0 : Nat) : Int) (out.map toS) (hi (cm (unU n) (vf v) 0)) (lo (cm (unU n) (vf v) 0)) v) R by
    rw [show cm (unU n) (vf v) 0 = 0 from rfl, hi_zero, lo_zero] at key
    exact key
  refine Ev.down (g := fun i k => span_Back.l14 k X (n : Int) (j : Int) (n : Int) (i : Int) (out.map toS) (hi (cm (unU n) (vf v) i)) (lo (cm (unU n) (vf v) i)) v) (n := n) ?_ fun i hil hih => ?_
  · have f3 : ∀ z : S34, (out.map toS).length + [z].length ≤ 140737488355328 / 16 := fun z => by rw [List.length_map, List.length_singleton]; omega
    rw [List.map_append] at h
    refine Ev.step (fun q => by rw [span_Back.l14]) (Ev.neg (Int.lt_irrefl _) (Ev.pos (f3 _) ?_))
    rw [w64_succ hj (by omega)]
    exact h
  · have f1 : i < v.length := by omega
    have f0 : (i : Int) < (n : Int) := by omega
    refine Ev.step (fun q => by rw [span_Back.l14]) (Ev.pos f0 (Ev.ixS f1 ?_))
    rw [rdB_get, w64_succ hil (by omega)]
    by_cases d : v.getD i false = true
    · have es : cm (unU n) (vf v) (i + 1) = cm (unU n) (vf v) i + bitE i := by rw [cm, if_pos (show vf v i = true from d), unU_row hil]
      rw [es] at hih
      exact Ev.pos d (Ev.bnd (towerBit_ev i (by omega)) (Ev.bnd (Add_ev _ _) hih))
    · have es : cm (unU n) (vf v) (i + 1) = cm (unU n) (vf v) i := by rw [cm, if_neg (show ¬ vf v i = true from d), add_zero]
      rw [es] at hih
      exact Ev.neg d hih
theorem back_l7 (X : List E) (hX : X.length ≤ 128) : ∀ (d j : Nat), j + d = X.length → ∀ out : List E, out.length = j → (∀ i, i < j → ∃ v, Sol X (bitE i) v ∧ out.getD i 0 = cm (unU X.length) (vf v) X.length) →
    (∃ Y : List E, Y.length = X.length ∧ (∀ i, i < X.length → ∃ v, Sol X (bitE i) v ∧ Y.getD i 0 = cm (unU X.length) (vf v) X.length) ∧ Ev (fun k => span_Back.l7 k (X.map toS) (X.length : Int) (j : Int) (out.map toS)) (Y.map toS, 0)) ∨ ((∃ i, i < X.length ∧ ¬ InSp X (bitE i)) ∧ Ev (fun k => span_Back.l7 k (X.map toS) (X.length : Int) (j : Int) (out.map toS)) ([], 7)) := by
  intro d
  induction d with
  | zero =>
    intro j hj out ho h
    have : j = X.length := by omega
    subst this
    refine .inl ⟨out, ho, h, ?_⟩
    refine Ev.step (fun q => by rw [span_Back.l7]) ?_
    exact Ev.neg (Int.lt_irrefl _) (Ev.ret _)
  | succ d ih =>
    intro j hj out ho h
    have hjl : j < X.length := by omega
    have f0 : (j : Int) < (X.length : Int) := by omega
    obtain ⟨v, b, hv, hvb⟩ := Solve_ev X (by omega) (bitE j)
    rcases hvb with ⟨rfl, sv⟩ | ⟨rfl, rfl, nv⟩
    · have h2 : ∀ i, i < j + 1 → ∃ w, Sol X (bitE i) w ∧ (out ++ [cm (unU X.length) (vf v) X.length]).getD i 0 = cm (unU X.length) (vf w) X.length := fun i hi' => by
        by_cases c : i = j
        · subst c
          refine ⟨v, sv, ?_⟩
          rw [List.getD_eq_getElem?_getD, List.getElem?_append_right (by omega), ho, Nat.sub_self]; rfl
        · obtain ⟨w, w1, w2⟩ := h i (by omega)
          refine ⟨w, w1, ?_⟩
          rw [List.getD_eq_getElem?_getD, List.getElem?_append_left (by omega), ← List.getD_eq_getElem?_getD, w2]
      have go : ∀ {R : List S34 × Int}, Ev (fun k => span_Back.l7 k (X.map toS) (X.length : Int) ((j + 1 : Nat) : Int) ((out ++ [cm (unU X.length) (vf v) X.length]).map toS)) R → Ev (fun k => span_Back.l7 k (X.map toS) (X.length : Int) (j : Int) (out.map toS)) R := fun hh => by
        refine Ev.step (fun q => by rw [span_Back.l7]) (Ev.pos f0 (Ev.bnd (towerBit_ev j (by omega)) (Ev.bnd hv ?_)))
        refine Ev.neg (show ¬ (!true) = true by decide) ?_
        exact back_l14 (X.map toS) hX j hjl out ho v sv.len hh
      rcases ih (j + 1) (by omega) (out ++ [cm (unU X.length) (vf v) X.length]) (by rw [List.length_append, List.length_singleton]; omega) h2 with ⟨Y, y1, y2, y3⟩ | ⟨n1, n2⟩
      · exact .inl ⟨Y, y1, y2, go y3⟩
      · exact .inr ⟨n1, go n2⟩
    · refine .inr ⟨⟨j, hjl, nv⟩, ?_⟩
      exact Ev.step (fun q => by rw [span_Back.l7]) (Ev.pos f0 (Ev.bnd (towerBit_ev j (by omega)) (Ev.bnd hv (Ev.pos rfl (Ev.ret _)))))
end Go.Proofs.Ytfmjodlcjaflfaa.Sp
namespace Go.Proofs.Ytfmjodlcjaflfaa.Sp
open Go.Proofs.Ytfmjodlcjaflfaa.V.B Go.RowKit Go.Proofs.Ytfmjodlcjaflfaa.B Go.Proofs.Ytfmjodlcjaflfaa.V.B.Ar Go.Proofs.Ytfmjodlcjaflfaa.V.B.Tw
set_option linter.unusedVariables false
/-- The bits of a sum of bits. -/
theorem bits_of_sum (b : Nat → Bool) : ∀ n, n ≤ 128 → (val (sumN (fun u => pick (b u) (bitE u)) n) < 2 ^ n ∧ ∀ j, j < n → hasB (sumN (fun u => pick (b u) (bitE u)) n) j = b j)
  | 0, _ => ⟨by rw [sumN, val_zero]; decide, fun j hj => by omega⟩
  | n + 1, h => by
    obtain ⟨h1, h2⟩ := bits_of_sum b n (by omega)
    have hp : (2 : Nat) ^ (n + 1) = 2 ^ n + 2 ^ n := by rw [Nat.pow_succ, Nat.mul_two]
    have hv : val (sumN (fun u => pick (b u) (bitE u)) (n + 1)) = val (sumN (fun u => pick (b u) (bitE u)) n) ^^^ (if b n then 2 ^ n else 0) := by
      rw [sumN, val_add, val_pick, val_bitE (by omega)]
    refine ⟨?_, fun j hj => ?_⟩
    · rw [hv]
      refine Nat.xor_lt_two_pow (by omega) ?_
      split <;> omega
    · have hj2 : hasB (sumN (fun u => pick (b u) (bitE u)) (n + 1)) j = (hasB (sumN (fun u => pick (b u) (bitE u)) n) j ^^ (if b n then 2 ^ n else 0 : Nat).testBit j) := by
        show (val _).testBit j = _
        rw [hv, Nat.testBit_xor]; rfl
      rw [hj2]
      by_cases c : j = n
      · subst c
        have h0 : hasB (sumN (fun u => pick (b u) (bitE u)) j) j = false := Nat.testBit_lt_two_pow h1
        rw [h0, Bool.false_xor]
        cases hb : b j with
        | true => rw [if_pos rfl, Nat.testBit_two_pow_self]
        | false => rw [if_neg Bool.false_ne_true, Nat.zero_testBit]
      · rw [h2 j (by omega)]
        have : (if b n then 2 ^ n else 0 : Nat).testBit j = false := by
          cases b n with
          | true => rw [if_pos rfl, Nat.testBit_two_pow]; simp; omega
          | false => rw [if_neg Bool.false_ne_true, Nat.zero_testBit]
        rw [this, Bool.xor_false]
theorem turn_twice (X : List E) (hX : X.length ≤ 128) (n : Nat) (hn : n ≤ 128) (hin : InN n X) : turnL (turnL X n) X.length = X ∧ InN X.length (turnL X n) := by
  have hl : (turnL X n).length = n := tabL_length _ _
  refine ⟨?_, ?_⟩
  · refine ext_getD (X := turnL (turnL X n) X.length) (Y := X) (tabL_length _ _) ?_
    intro i hi'
    have hi2 : i < X.length := by
      have : (turnL (turnL X n) X.length).length = X.length := tabL_length _ _
      omega
    have hg : X.getD i 0 ∈ X := by
      rw [List.getD_eq_getElem?_getD, List.getElem?_eq_getElem hi2]; exact List.getElem_mem hi2
    have h1 : (turnL (turnL X n) X.length).getD i 0 = turnN (turnL X n) (turnL X n).length i := tabL_getD _ _ i hi2
    rw [h1, hl]
    have h2 : turnN (turnL X n) n i = sumN (fun j => pick (hasB (X.getD i 0) j) (bitE j)) n := by
      unfold turnN
      apply sumN_congr
      intro j hj
      have h3 : (turnL X n).getD j 0 = turnN X X.length j := tabL_getD _ _ j hj
      rw [h3]
      unfold turnN
      rw [(bits_of_sum (fun u => hasB (X.getD u 0) j) X.length hX).2 i hi2]
    rw [h2]
    apply val_inj
    rw [val_expand _ n hn, Nat.mod_eq_of_lt (hin _ hg)]
  · intro x hx
    unfold turnL tabL at hx
    obtain ⟨j, _, rfl⟩ := List.mem_map.1 hx
    exact (bits_of_sum (fun u => hasB (X.getD u 0) j) X.length hX).1
end Go.Proofs.Ytfmjodlcjaflfaa.Sp
namespace Go.Proofs.Ytfmjodlcjaflfaa.Sp
open Go.Proofs.Ytfmjodlcjaflfaa.V.B Go.RowKit Go.Proofs.Ytfmjodlcjaflfaa.B Go.Proofs.Ytfmjodlcjaflfaa.V.B.Ar Go.Proofs.Ytfmjodlcjaflfaa.V.B.Tw
set_option linter.unusedVariables false
set_option linter.unusedSimpArgs false
theorem trZ_of {l : Nat} (hl : l ≤ 6) {c : Int} (h0 : 0 ≤ c) (h1 : c < 18446744073709551616) (hc : c.toNat < Q l) (h : Ev (fun k => frob_Trace.f k (l : Int) 0 ⟨0, c⟩) ⟨0, 1⟩) : ∃ z : E, InL l z ∧ trE l z = 1 := by
  have e1 : hi (el 0 c) = 0 := hi_el (by decide) (by decide)
  have e2 : lo (el 0 c) = c := lo_el h0 h1
  have hz : InL l (el 0 c) := (inL_low hl).2 ⟨e1, by rw [e2]; exact hc⟩
  have ht : toS (el 0 c) = ⟨0, c⟩ := by unfold toS; rw [e1, e2]
  have he := Trace_ev (by omega) hz
  rw [ht] at he
  have hs := Ev.same he h
  refine ⟨el 0 c, hz, toS_inj ?_⟩
  rw [hs]
  unfold toS
  rw [hi_one, lo_one]
theorem trZ {l : Nat} (hl : l ≤ 5) : ∃ z : E, InL l z ∧ trE l z = 1 := by
  match l, hl with
  | 0, _ => exact trZ_of (by decide) (by decide) (by decide) (by decide) tr0
  | 1, _ => exact trZ_of (by decide) (by decide) (by decide) (by decide) tr1
  | 2, _ => exact trZ_of (by decide) (by decide) (by decide) (by decide) tr2
  | 3, _ => exact trZ_of (by decide) (by decide) (by decide) (by decide) tr3
  | 4, _ => exact trZ_of (by decide) (by decide) (by decide) (by decide) tr4
  | 5, _ => exact trZ_of (by decide) (by decide) (by decide) (by decide) tr5
theorem trE_not {l : Nat} (hl : l ≤ 5) {w : E} (hw : InL l w) (h0 : w ≠ 0) : ∃ y : E, InL l y ∧ trE l (y * w) = 1 := by
  obtain ⟨z, hz, h1⟩ := trZ hl
  refine ⟨z * invT w, inL_mul (by omega) hz (inL_inv (by omega) hw), ?_⟩
  rw [mul_assoc, invT_mul h0, mul_one, h1]
/-- The trace of a bit times an element. -/
def tb (l u : Nat) (x : E) : Bool := decide (trE l (bitE u * x) = 1)
theorem tb_add {l u : Nat} (hl : l ≤ 7) (hu : u < 2 ^ l) {x y : E} (hx : InL l x) (hy : InL l y) : tb l u (x + y) = (tb l u x ^^ tb l u y) := by
  have hb := bitE_in hl hu
  unfold tb
  rw [mul_add, trE_add]
  have h01 : ¬ (0 : E) = 1 := fun e => one_ne0 e.symm
  rcases trE_bit hl (inL_mul hl hb hx) with a | a <;> rcases trE_bit hl (inL_mul hl hb hy) with b | b <;> rw [a, b]
  · rw [add_zero, decide_eq_false h01]; rfl
  · rw [zero_add, decide_eq_true rfl, decide_eq_false h01]; rfl
  · rw [add_zero, decide_eq_true rfl, decide_eq_false h01]; rfl
  · rw [add_self, decide_eq_false h01, decide_eq_true rfl]; rfl
theorem tb_zero {l u : Nat} : tb l u 0 = false := by
  unfold tb
  rw [mul_zero, trE_zero]
  exact decide_eq_false fun e => one_ne0 e.symm
def rowD (l j : Nat) : E := sumN (fun i => pick (tb l i (bitE j)) (bitE i)) (2 ^ l)
def rowsD (l : Nat) : List E := tabL (2 ^ l) (rowD l)
theorem rowD_bit {l : Nat} (hl : l ≤ 7) (j : Nat) : val (rowD l j) < 2 ^ 2 ^ l ∧ ∀ u, u < 2 ^ l → hasB (rowD l j) u = tb l u (bitE j) := bits_of_sum (fun i => tb l i (bitE j)) (2 ^ l) (w128 hl)
theorem rowsD_row {l j : Nat} (h : j < 2 ^ l) : row (rowsD l) j = rowD l j := tabL_getD _ _ j h
theorem cmU_in {l : Nat} (hl : l ≤ 7) (v : Nat → Bool) : ∀ k, k ≤ 2 ^ l → InL l (cm (unU (2 ^ l)) v k)
  | 0, _ => inL_zero l
  | k + 1, hk => by
    rw [cm, unU_row (by omega)]
    refine inL_add (cmU_in hl v k (by omega)) ?_
    split
    · exact bitE_in hl (by omega)
    · exact inL_zero l
theorem rows_cm {l u : Nat} (hl : l ≤ 7) (hu : u < 2 ^ l) (v : Nat → Bool) : ∀ k, k ≤ 2 ^ l → hasB (cm (rowsD l) v k) u = tb l u (cm (unU (2 ^ l)) v k)
  | 0, _ => by
    show hasB 0 u = tb l u 0
    rw [hasB_zero, tb_zero]
  | k + 1, hk => by
    have hin : InL l (if v k = true then bitE k else 0) := by
      split
      · exact bitE_in hl (by omega)
      · exact inL_zero l
    rw [cm, cm, unU_row (by omega), rowsD_row (by omega), hasB_add, rows_cm hl hu v k (by omega), tb_add hl hu (cmU_in hl v k (by omega)) hin]
    congr 1
    cases v k
    · rw [if_neg Bool.false_ne_true, if_neg Bool.false_ne_true, hasB_zero, tb_zero]
    · rw [if_pos rfl, if_pos rfl]; exact (rowD_bit hl k).2 u hu
theorem sp_cm (X : List E) : ∀ k, k ≤ X.length → ∀ y : E, InSp (X.take k) y → ∃ v : Nat → Bool, y = cm X v k
  | 0, _, y, h => ⟨fun _ => false, h⟩
  | k + 1, hk, y, h => by
    rw [take_row X (by omega)] at h
    rcases (inSp_snoc _ _ _).1 h with g | g
    · obtain ⟨v, hv⟩ := sp_cm X k (by omega) y g
      refine ⟨fun i => decide (i < k) && v i, ?_⟩
      rw [cm, decide_eq_false (Nat.lt_irrefl k), Bool.false_and, if_neg Bool.false_ne_true, add_zero, hv]
      exact cm_congr X k fun i hi' => by rw [decide_eq_true hi', Bool.true_and]
    · obtain ⟨v, hv⟩ := sp_cm X k (by omega) _ g
      refine ⟨fun i => decide (i = k) || v i, ?_⟩
      rw [cm, decide_eq_true rfl, Bool.true_or, if_pos rfl]
      have e : cm X (fun i => decide (i = k) || v i) k = cm X v k := cm_congr X k fun i hi' => by rw [decide_eq_false (by omega), Bool.false_or]
      rw [e, ← hv, add_assoc, add_self, add_zero]
/-- A trace is the sum of the traces of the bits. -/
theorem trE_bits {l : Nat} (hl : l ≤ 7) {x : E} (hx : InL l x) (w : E) : trE l (x * w) = sumN (fun u => pick (hasB x u) (trE l (bitE u * w))) (2 ^ l) := by
  have lin : ∀ (f : Nat → E) n, trE l (sumN f n) = sumN (fun u => trE l (f u)) n := fun f n => by
    induction n with
    | zero => exact trE_zero l
    | succ n ih => rw [sumN, sumN, trE_add, ih]
  conv => lhs; rw [← expand hl hx]
  rw [← sumN_mulr, lin]
  refine sumN_congr _ fun u _ => ?_
  rw [← pick_mul]
  cases hasB x u
  · rw [pick_false, pick_false, trE_zero]
  · rw [pick_true, pick_true]
theorem rowsD_length (l : Nat) : (rowsD l).length = 2 ^ l := tabL_length _ _
theorem rowsD_in {l : Nat} (hl : l ≤ 7) : InN (2 ^ l) (rowsD l) := fun x hx => by
  obtain ⟨j, _, rfl⟩ := List.mem_map.1 hx
  exact (rowD_bit hl j).1
theorem rowsD_indep {l : Nat} (hl : l ≤ 5) : Indep (rowsD l) := by
  intro i hi' hsp
  have hil : i < 2 ^ l := by rw [rowsD_length] at hi'; exact hi'
  have h128 := w128 (show l ≤ 7 by omega)
  have hrow : (rowsD l)[i] = rowD l i := by
    have := rowsD_row hil
    unfold row at this
    rw [List.getD_eq_getElem?_getD, List.getElem?_eq_getElem hi'] at this
    exact this
  rw [hrow] at hsp
  obtain ⟨v, hv⟩ := sp_cm (rowsD l) i (by omega) _ hsp
  have hU := cmU_in (show l ≤ 7 by omega) v i (by omega)
  have hbi := bitE_in (show l ≤ 7 by omega) hil
  have hz : ∀ u, u < 2 ^ l → tb l u (bitE i + cm (unU (2 ^ l)) v i) = false := fun u hu => by
    rw [tb_add (by omega) hu hbi hU, ← rows_cm (by omega) hu v i (by omega), ← hv, (rowD_bit (show l ≤ 7 by omega) i).2 u hu, Bool.xor_self]
  have hne : bitE i + cm (unU (2 ^ l)) v i ≠ 0 := fun e => by
    have h1 : bitT (bitE i + cm (unU (2 ^ l)) v i) i = false := by rw [e]; exact bitT_zero i
    rw [bitT_add, bitB i (by omega), cmU_bit h128 v i (by omega), decide_eq_true rfl, decide_eq_false (Nat.lt_irrefl i)] at h1
    cases h1
  obtain ⟨y, hy, h1⟩ := trE_not hl (inL_add hbi hU) hne
  rw [trE_bits (by omega) hy] at h1
  have h0 : sumN (fun u => pick (hasB y u) (trE l (bitE u * (bitE i + cm (unU (2 ^ l)) v i)))) (2 ^ l) = 0 := by
    rw [sumN_congr (g := fun _ => (0 : E)) _ fun u hu => ?_]
    · exact sumN_zero _
    · have h2 := hz u hu
      unfold tb at h2
      rcases trE_bit (show l ≤ 7 by omega) (inL_mul (by omega) (bitE_in (by omega) hu) (inL_add hbi hU)) with g | g
      · rw [g, pick_zero]
      · rw [g] at h2; cases (decide_eq_false_iff_not.1 h2) rfl
  rw [h0] at h1
  exact one_ne0 h1.symm
/-- The dual elements, as the way back finds them. -/
theorem dual_back {l : Nat} (hl : l ≤ 5) : ∃ Y : List E, Y.length = 2 ^ l ∧ Ev (fun k => span_Back.l7 k ((rowsD l).map toS) ((rowsD l).length : Int) 0 []) (Y.map toS, 0) ∧
    (∀ i, i < 2 ^ l → InL l (Y.getD i 0)) ∧ ∀ i, i < 2 ^ l → ∀ x : E, InL l x → (trE l (x * Y.getD i 0) = 1 ↔ hasB x i = true) := by
  have h7 : l ≤ 7 := by omega
  have h128 := w128 h7
  have hlen := rowsD_length l
  have hr := (rank_eq (rowsD l)).2 (rowsD_indep hl)
  rw [hlen] at hr
  have hall := (rank_all h128 (rowsD_in h7) hlen).1 hr
  rcases back_l7 (rowsD l) (by omega) (rowsD l).length 0 (by omega) [] rfl (fun i hi' => by omega) with ⟨Y, y1, y2, y3⟩ | ⟨⟨i, hi', hn⟩, _⟩
  rotate_left
  · exact absurd (hall i (by omega)) hn
  rw [hlen] at y1 y2
  refine ⟨Y, y1, y3, fun i hi' => ?_, fun i hi' x hx => ?_⟩
  · obtain ⟨v, _, e⟩ := y2 i hi'
    rw [e]; exact cmU_in h7 _ _ (Nat.le_refl _)
  · obtain ⟨v, sv, e⟩ := y2 i hi'
    have hY := cmU_in h7 (vf v) (2 ^ l) (Nat.le_refl _)
    have hs := sv.sum
    rw [hlen] at hs
    have ht : ∀ u, u < 2 ^ l → tb l u (Y.getD i 0) = decide (u = i) := fun u hu => by
      rw [e, ← rows_cm h7 hu (vf v) (2 ^ l) (Nat.le_refl _), hs]
      exact bitB i (by omega) u
    rw [trE_bits h7 hx]
    have h01 : ¬ (0 : E) = 1 := fun e => one_ne0 e.symm
    have hYi : InL l (Y.getD i 0) := by rw [e]; exact hY
    have hone : sumN (fun u => pick (hasB x u) (trE l (bitE u * Y.getD i 0))) (2 ^ l) = pick (hasB x i) (trE l (bitE i * Y.getD i 0)) := sumN_one _ _ i hi' fun u hu hne => by
      have h2 := ht u hu
      rw [decide_eq_false hne] at h2
      unfold tb at h2
      rcases trE_bit h7 (inL_mul h7 (bitE_in h7 hu) hYi) with g | g
      · rw [g, pick_zero]
      · rw [g] at h2; cases (decide_eq_false_iff_not.1 h2) rfl
    have hii : trE l (bitE i * Y.getD i 0) = 1 := by
      have h2 := ht i hi'
      rw [decide_eq_true rfl] at h2
      exact of_decide_eq_true h2
    rw [hone, hii]
    cases hasB x i
    · rw [pick_false]; exact ⟨fun g => absurd g h01, fun g => by cases g⟩
    · rw [pick_true]; exact ⟨fun _ => rfl, fun _ => rfl⟩
end Go.Proofs.Ytfmjodlcjaflfaa.Sp
namespace Go.Proofs.Ytfmjodlcjaflfaa.Sp
open Go.Proofs.Ytfmjodlcjaflfaa.V.B Go.RowKit Go.Proofs.Ytfmjodlcjaflfaa.B Go.Proofs.Ytfmjodlcjaflfaa.V.B.Ar Go.Proofs.Ytfmjodlcjaflfaa.V.B.Tw
set_option linter.unusedVariables false
set_option linter.unusedSimpArgs false
theorem not_ge {r : Int} {p : Prop} [Decidable p] (h : r ≥ 0 ↔ ¬ p) : (!decide (r ≥ 0)) = decide p := by
  by_cases c : p
  · rw [decide_eq_true c, decide_eq_false (fun g => (h.1 g) c)]; rfl
  · rw [decide_eq_false c, decide_eq_true (h.2 c)]; rfl
theorem weave_of_ev (L : Int) (X : List E) (hX : X.length ≤ 4611686018427387904) : Ev (fun k => weave_of.f k L (X.map toS)) (decide (AllS L X)) := by
  have hp : ∀ x, Ev (fun k => weave_of_1.f k (toS x) (some L)) (decide (¬ OfS L x)) := fun x => Ev.bnd (of_ev L x) (Ev.ret' (by rw [decide_not]))
  obtain ⟨r, h1, h2⟩ := index_gen (P := OfS L) (l := fun k xs a n i => slices_IndexFunc77_c85.l2 k xs a n i) (p := weave_of_1.f) (fun k xs n i => by rw [slices_IndexFunc77_c85.l2]) hp X hX X.length 0 (by omega)
  unfold weave_of.f slices_ContainsFunc52_c85.f slices_IndexFunc77_c85.f
  rw [List.length_map]
  exact Ev.bnd (Ev.bnd h1 (Ev.ret _)) (Ev.ret' (not_ge h2))
end Go.Proofs.Ytfmjodlcjaflfaa.Sp
namespace Go.Proofs.Ytfmjodlcjaflfaa.Sp
open Go.Proofs.Ytfmjodlcjaflfaa.V.B Go.RowKit Go.Proofs.Ytfmjodlcjaflfaa.B Go.Proofs.Ytfmjodlcjaflfaa.V.B.Ar Go.Proofs.Ytfmjodlcjaflfaa.V.B.Tw
set_option linter.unusedVariables false
def weightsL (P : List E) : List E := tabL (2 ^ P.length) (weight P)
theorem tabL_append (m n : Nat) (f g : Nat → E) : tabL m f ++ tabL n g = tabL (m + n) (fun i => if i < m then f i else g (i - m)) := by
  apply ext_getD
  · rw [List.length_append, tabL_length, tabL_length, tabL_length]
  · intro i hi
    rw [List.length_append, tabL_length, tabL_length] at hi
    rw [tabL_getD (m + n) _ i hi, List.getD_eq_getElem?_getD]
    by_cases c : i < m
    · rw [if_pos c, List.getElem?_append_left (by rw [tabL_length]; exact c), ← List.getD_eq_getElem?_getD, tabL_getD m f i c]
    · rw [if_neg c, List.getElem?_append_right (by rw [tabL_length]; omega), tabL_length, ← List.getD_eq_getElem?_getD, tabL_getD n g (i - m) (by omega)]
theorem weightsL_snoc (P : List E) (p : E) : tabL (2 ^ P.length) (fun i => weight P i + weight P i * p) ++ tabL (2 ^ P.length) (fun i => weight P i * p) = weightsL (P ++ [p]) := by
  unfold weightsL
  rw [tabL_append, List.length_append, List.length_singleton, Nat.pow_succ, Nat.mul_two]
  apply tabL_congr
  intro i hi
  by_cases c : i < 2 ^ P.length
  · rw [if_pos c, weight_low p P i c, mul_add, mul_one]
  · rw [if_neg c]
    have := weight_up p P (i - 2 ^ P.length) (by omega)
    rw [show 2 ^ P.length + (i - 2 ^ P.length) = i by omega] at this
    exact this.symm
theorem pickd_at (i : Nat) (y : E) : pick (decide (i < i)) y = 0 := by rw [decide_eq_false (Nat.lt_irrefl i), pick_false]
theorem pickd_now (i : Nat) (y : E) : pick (decide (i < i + 1)) y = y := by rw [decide_eq_true (Nat.lt_succ_self i), pick_true]
theorem pickd_next (i k : Nat) (y : E) (h : k ≠ i) : pick (decide (k < i + 1)) y = pick (decide (k < i)) y := by
  have : decide (k < i + 1) = decide (k < i) := by rw [decide_eq_decide]; omega
  rw [this]
theorem pickd_in (n k : Nat) (y : E) (h : k < n) : pick (decide (k < n)) y = y := by rw [decide_eq_true h, pick_true]
theorem pickd_zero (k : Nat) (y : E) : pick (decide (k < 0)) y = 0 := by rw [decide_eq_false (Nat.not_lt_zero k), pick_false]
theorem inL_all {l : Nat} {P : List E} (h : AllS (l : Int) P) : ∀ p ∈ P, InL l p := fun p hp => inL_of (h p hp)
/-- The weights, or nothing. -/
def weightsO (L : Int) (P : List E) : List E := if LvS L ∧ P.length ≤ 16 ∧ AllS L P then weightsL P else []
end Go.Proofs.Ytfmjodlcjaflfaa.Sp
namespace Go.Proofs.Ytfmjodlcjaflfaa.Sp
open Go.Proofs.Ytfmjodlcjaflfaa.V.B Go.RowKit Go.Proofs.Ytfmjodlcjaflfaa.B Go.Proofs.Ytfmjodlcjaflfaa.V.B.Ar Go.Proofs.Ytfmjodlcjaflfaa.V.B.Tw
set_option linter.unusedVariables false
end Go.Proofs.Ytfmjodlcjaflfaa.Sp
namespace Go.Proofs.Ytfmjodlcjaflfaa.Sp
open Go.Proofs.Ytfmjodlcjaflfaa.V.B Go.RowKit Go.Proofs.Ytfmjodlcjaflfaa.B Go.Proofs.Ytfmjodlcjaflfaa.V.B.Ar Go.Proofs.Ytfmjodlcjaflfaa.V.B.Tw
set_option linter.unusedVariables false
set_option linter.unusedSimpArgs false
end Go.Proofs.Ytfmjodlcjaflfaa.Sp
namespace Go.Proofs.Ytfmjodlcjaflfaa.Sp
open Go.Proofs.Ytfmjodlcjaflfaa.V.B Go.RowKit Go.Proofs.Ytfmjodlcjaflfaa.B Go.Proofs.Ytfmjodlcjaflfaa.V.B.Ar Go.Proofs.Ytfmjodlcjaflfaa.V.B.Tw
set_option linter.unusedVariables false
set_option linter.unusedSimpArgs false
end Go.Proofs.Ytfmjodlcjaflfaa.Sp
namespace Go.Proofs.Ytfmjodlcjaflfaa.Sp
open Go.Proofs.Ytfmjodlcjaflfaa.V.B Go.RowKit Go.Proofs.Ytfmjodlcjaflfaa.B Go.Proofs.Ytfmjodlcjaflfaa.V.B.Ar Go.Proofs.Ytfmjodlcjaflfaa.V.B.Tw
set_option linter.unusedVariables false
theorem two_ev (l : Nat) (hl : l ≤ 60) : Ev (fun k => steepleref15_Two.f k (l : Int)) ((2 ^ l : Nat) : Int) := by
  unfold steepleref15_Two.f
  refine Ev.down (g := fun i k => steepleref15_Two.l3 k (l : Int) ((2 ^ i : Nat) : Int) (i : Int)) (n := l) ?_ fun i hi' hih => ?_
  · refine Ev.step (fun k => by rw [steepleref15_Two.l3]) ?_
    exact Ev.neg (Int.lt_irrefl _) (Ev.ret _)
  · refine Ev.step (fun k => by rw [steepleref15_Two.l3]) (Ev.pos (by omega) ?_)
    have hp : (2 : Nat) ^ i ≤ 2 ^ 60 := Nat.pow_le_pow_right (by decide) (by omega)
    have e : wrap64 (2 * ((2 ^ i : Nat) : Int)) = ((2 ^ (i + 1) : Nat) : Int) := by
      rw [Nat.pow_succ]
      have h60 : (2 : Nat) ^ 60 = 1152921504606846976 := by decide
      generalize 2 ^ i = p at hp ⊢
      rw [w64_id (by omega) (by omega)]; omega
    rw [e, w64_succ hi' (by omega)]
    exact hih
end Go.Proofs.Ytfmjodlcjaflfaa.Sp
namespace Go.Proofs.Ytfmjodlcjaflfaa.Sp
open Go.Proofs.Ytfmjodlcjaflfaa.V.B Go.RowKit Go.Proofs.Ytfmjodlcjaflfaa.B Go.Proofs.Ytfmjodlcjaflfaa.V.B.Ar Go.Proofs.Ytfmjodlcjaflfaa.V.B.Tw
set_option linter.unusedVariables false
/-- What hinders parts and a point. -/
def mayE (L : Int) (X P : List E) : Int := if LvS L then (if X.length = 2 ^ L.toNat ∧ (P.length : Int) = L then (if AllS L X ∧ AllS L P then 0 else 5) else 6) else 1
theorem mayE_len {L : Int} (hL : LvS L) {X P : List E} (h : ¬ (X.length = 2 ^ L.toNat ∧ (P.length : Int) = L)) : mayE L X P = 6 := by unfold mayE; rw [if_pos hL, if_neg h]
theorem mayE_all {L : Int} (hL : LvS L) {X P : List E} (h : X.length = 2 ^ L.toNat ∧ (P.length : Int) = L) (g : ¬ (AllS L X ∧ AllS L P)) : mayE L X P = 5 := by unfold mayE; rw [if_pos hL, if_pos h, if_neg g]
theorem mayE_ok {L : Int} (hL : LvS L) {X P : List E} (h : X.length = 2 ^ L.toNat ∧ (P.length : Int) = L) (g : AllS L X ∧ AllS L P) : mayE L X P = 0 := by unfold mayE; rw [if_pos hL, if_pos h, if_pos g]
theorem may_in {L : Int} {X P : List E} (h : mayE L X P = 0) : ∃ l : Nat, L = (l : Int) ∧ l ≤ 7 ∧ X.length = 2 ^ l ∧ P.length = l ∧ AllS (l : Int) X ∧ AllS (l : Int) P := by
  unfold mayE at h
  split at h
  · next hL =>
    split at h
    · next hlen =>
      split at h
      · next hall =>
        obtain ⟨l, rfl⟩ := Int.eq_ofNat_of_zero_le hL.1
        have h1 := hlen.1
        rw [Int.toNat_natCast] at h1
        exact ⟨l, rfl, by have := hL.2; omega, h1, by have := hlen.2; omega, hall.1, hall.2⟩
      · omega
    · omega
  · omega
theorem weights_all {l : Nat} (hl : l ≤ 7) (P : List E) (hP : AllS (l : Int) P) : AllS (l : Int) (weightsL P) := tabL_all hl _ _ (fun i _ => weight_in hl P i (inL_all hP))
theorem value_dot (X P : List E) (h : X.length = 2 ^ P.length) : sumN (fun j => (weightsL P).getD j 0 * X.getD j 0) (weightsL P).length = value X P := by
  unfold value
  have hw : (weightsL P).length = 2 ^ P.length := tabL_length _ _
  rw [hw, h]
  apply sumN_congr
  intro i hi'
  have : (weightsL P).getD i 0 = weight P i := tabL_getD _ _ i hi'
  rw [this, mul_comm]
/-- Parts, batched. -/
def batch (X P : List E) : E := sumN (fun u => weight P u * turnN X X.length u) X.length
end Go.Proofs.Ytfmjodlcjaflfaa.Sp
namespace Go.Proofs.Ytfmjodlcjaflfaa.Sp
open Go.Proofs.Ytfmjodlcjaflfaa.V.B Go.RowKit Go.Proofs.Ytfmjodlcjaflfaa.B Go.Proofs.Ytfmjodlcjaflfaa.V.B.Ar Go.Proofs.Ytfmjodlcjaflfaa.V.B.Tw
set_option linter.unusedVariables false
set_option linter.unusedSimpArgs false
def logFrom (n : Int) (k : Nat) : Nat → Int
  | 0 => -1
  | d + 1 => if n = ((2 ^ k : Nat) : Int) then (k : Int) else logFrom n (k + 1) d
def logI (n : Int) : Int := logFrom n 0 17
theorem logFrom_pow : ∀ (d k m : Nat), k ≤ m → m < k + d → logFrom ((2 ^ m : Nat) : Int) k d = (m : Int)
  | 0, k, m, h1, h2 => by omega
  | d + 1, k, m, h1, h2 => by
    rw [logFrom]
    by_cases c : m = k
    · rw [if_pos (by rw [c]), c]
    · rw [if_neg ?_, logFrom_pow d (k + 1) m (by omega) (by omega)]
      intro e
      have e' : 2 ^ m = 2 ^ k := by omega
      exact c ((Nat.pow_right_inj (by decide)).1 e')
theorem logI_pow {m : Nat} (h : m ≤ 16) : logI ((2 ^ m : Nat) : Int) = (m : Int) := logFrom_pow 17 0 m (by omega) (by omega)
theorem logFrom_inv : ∀ (d k : Nat) (n : Int), logFrom n k d = -1 ∨ ∃ m : Nat, k ≤ m ∧ m < k + d ∧ n = ((2 ^ m : Nat) : Int) ∧ logFrom n k d = (m : Int)
  | 0, k, n => Or.inl rfl
  | d + 1, k, n => by
    rw [logFrom]
    by_cases c : n = ((2 ^ k : Nat) : Int)
    · rw [if_pos c]; exact Or.inr ⟨k, by omega, by omega, c, rfl⟩
    · rw [if_neg c]
      rcases logFrom_inv d (k + 1) n with h | ⟨m, h1, h2, h3, h4⟩
      · exact Or.inl h
      · exact Or.inr ⟨m, by omega, by omega, h3, h4⟩
theorem logI_inv (n : Int) : logI n = -1 ∨ ∃ m : Nat, m ≤ 16 ∧ n = ((2 ^ m : Nat) : Int) ∧ logI n = (m : Int) := by
  rcases logFrom_inv 17 0 n with h | ⟨m, _, h2, h3, h4⟩
  · exact Or.inl h
  · exact Or.inr ⟨m, by omega, h3, h4⟩
end Go.Proofs.Ytfmjodlcjaflfaa.Sp
namespace Go.Proofs.Ytfmjodlcjaflfaa.Sp
open Go.Proofs.Ytfmjodlcjaflfaa.V.B Go.RowKit Go.Proofs.Ytfmjodlcjaflfaa.B Go.Proofs.Ytfmjodlcjaflfaa.V.B.Ar Go.Proofs.Ytfmjodlcjaflfaa.V.B.Tw
set_option linter.unusedVariables false
set_option linter.unusedSimpArgs false
theorem Log_l0 (n : Int) : ∀ (d k : Nat), k + d = 17 → Ev (fun q => cube_Log.l2 q n (k : Int)) (logFrom n k d) := by
  intro d
  induction d with
  | zero =>
    intro k hk
    have h17 : ¬ ((k : Int) < 17) := by omega
    refine Ev.step (fun q => by rw [cube_Log.l2]) (Ev.neg h17 ?_)
    exact Ev.ret' rfl
  | succ d ih =>
    intro k hk
    refine Ev.step (fun q => by rw [cube_Log.l2]) (Ev.pos (by omega) (Ev.pos (Int.natCast_nonneg _) ?_))
    rw [shl_i64 k (by omega), logFrom]
    by_cases c : n = ((2 ^ k : Nat) : Int)
    · rw [if_pos c]; exact Ev.pos c (Ev.ret _)
    · rw [if_neg c]
      refine Ev.neg c ?_
      simp only [w64_succ (show k < 17 by omega) (by decide)]
      exact ih (k + 1) (by omega)
theorem Log_ev (n : Int) : Ev (fun q => cube_Log.f q n) (logI n) := Log_l0 n 17 0 (by omega)
end Go.Proofs.Ytfmjodlcjaflfaa.Sp
namespace Go.Proofs.Ytfmjodlcjaflfaa.Sp
open Go.Proofs.Ytfmjodlcjaflfaa.V.B Go.RowKit Go.Proofs.Ytfmjodlcjaflfaa.B Go.Proofs.Ytfmjodlcjaflfaa.V.B.Ar Go.Proofs.Ytfmjodlcjaflfaa.V.B.Tw
set_option linter.unusedVariables false
/-- What hinders bits. -/
def askB (L : Int) (n : Nat) : Int := if LvS L then (if logI (n : Int) < L ∨ logI (n : Int) > 12 then 6 else 0) else 1
theorem ask23_ev (L : Int) (B : List Bool) : Ev (fun k => ring_ask.f k L B) (askB L B.length) := by
  unfold ring_ask.f
  by_cases hL : LvS L
  · obtain ⟨v, hv, hw⟩ := wide_in hL
    refine Ev.bnd hw (Ev.neg hv (Ev.bnd (Log_ev _) ?_))
    by_cases c1 : logI (B.length : Int) < L
    · have e : askB L B.length = 6 := by unfold askB; rw [if_pos hL, if_pos (.inl c1)]
      rw [e]
      exact Ev.pos c1 (Ev.ret _)
    · refine Ev.neg c1 ?_
      by_cases c2 : logI (B.length : Int) > 12
      · have e : askB L B.length = 6 := by unfold askB; rw [if_pos hL, if_pos (.inr c2)]
        rw [e]
        exact Ev.pos c2 (Ev.ret _)
      · have e : askB L B.length = 0 := by unfold askB; rw [if_pos hL, if_neg (by omega)]
        rw [e]
        exact Ev.neg c2 (Ev.ret _)
  · have e : askB L B.length = 1 := if_neg hL
    rw [e]
    exact Ev.bnd (wide_out hL) (Ev.pos rfl (Ev.ret _))
theorem ask_in {L : Int} {n : Nat} (h : askB L n = 0) : ∃ l m : Nat, L = (l : Int) ∧ l ≤ 7 ∧ l ≤ m ∧ m ≤ 12 ∧ n = 2 ^ m ∧ logI (n : Int) = (m : Int) := by
  unfold askB at h
  split at h
  · next hL =>
    split at h
    · omega
    · next hc =>
      obtain ⟨l, rfl⟩ := Int.eq_ofNat_of_zero_le hL.1
      rcases logI_inv (n : Int) with g | ⟨m, h1, h2, h3⟩
      · rw [g] at hc; omega
      · rw [h3] at hc
        exact ⟨l, m, rfl, by have := hL.2; omega, by omega, by omega, by omega, h3⟩
  · omega
theorem shlP (a w : Nat) (h : w ≤ 62) (hp : a * 2 ^ w ≤ 4611686018427387904) : shl .i64 (a : Int) (w : Int) = ((a * 2 ^ w : Nat) : Int) := by
  unfold shl
  have h64 : IntKind.i64.bits = 64 := rfl
  rw [h64, Int.toNat_natCast, Nat.min_eq_left (by omega)]
  have hc : (a : Int) * 2 ^ w = ((a * 2 ^ w : Nat) : Int) := by simp
  rw [hc]
  generalize a * 2 ^ w = p at hp
  exact i64_id (by omega) (by omega)
/-- One column, added where a test says so. -/
def pAdd (f : Nat → E) (p : Nat → Bool) (y : E) (i k : Nat) : E := f k + pick (decide (k < i) && p k) y
theorem pAdd_zero (f : Nat → E) (p : Nat → Bool) (y : E) (k : Nat) : pAdd f p y 0 k = f k := by
  unfold pAdd
  rw [decide_eq_false (Nat.not_lt_zero k), Bool.false_and, pick_false, add_zero]
theorem pAdd_at (f : Nat → E) (p : Nat → Bool) (y : E) (i : Nat) : pAdd f p y i i = f i := by
  unfold pAdd
  rw [decide_eq_false (Nat.lt_irrefl i), Bool.false_and, pick_false, add_zero]
theorem pAdd_next (f : Nat → E) (p : Nat → Bool) (y : E) (i k : Nat) (h : k ≠ i) : pAdd f p y (i + 1) k = pAdd f p y i k := by
  unfold pAdd
  have : decide (k < i + 1) = decide (k < i) := by rw [decide_eq_decide]; omega
  rw [this]
theorem pAdd_now (f : Nat → E) (p : Nat → Bool) (y : E) (i : Nat) : pAdd f p y (i + 1) i = f i + pick (p i) y := by
  unfold pAdd
  rw [decide_eq_true (Nat.lt_succ_self i), Bool.true_and]
theorem pAdd_end (f : Nat → E) (p : Nat → Bool) (y : E) (n k : Nat) (h : k < n) : pAdd f p y n k = f k + pick (p k) y := by
  unfold pAdd
  rw [decide_eq_true h, Bool.true_and]
/-- The parts, as far as one has come. -/
def partN (N : Nat) (B : List Bool) (H : List E) (m v : Nat) : E := sumN (fun x => pick (B.getD (x * N + v) false) (weight H x)) m
def partsL (l : Nat) (B : List Bool) (H : List E) : List E := tabL (2 ^ l) (partN (2 ^ l) B H (2 ^ H.length))
/-- The parts, or the error. -/
def partsE (L : Int) (B : List Bool) (H : List E) : Int := if askB L B.length = 0 then (if (H.length : Int) = logI (B.length : Int) - L then (if AllS L H then 0 else 5) else 6) else askB L B.length
theorem parts_in {L : Int} {B : List Bool} {H : List E} (h : partsE L B H = 0) : ∃ l : Nat, L = (l : Int) ∧ l ≤ 7 ∧ l + H.length ≤ 12 ∧ B.length = 2 ^ H.length * 2 ^ l ∧ AllS (l : Int) H := by
  unfold partsE at h
  by_cases c : askB L B.length = 0
  · rw [if_pos c] at h
    obtain ⟨l, m, rfl, hl, hlm, hm, hn, hg⟩ := ask_in c
    rw [hg] at h
    by_cases c2 : (H.length : Int) = (m : Int) - (l : Int)
    · rw [if_pos c2] at h
      by_cases c3 : AllS (l : Int) H
      · exact ⟨l, rfl, hl, by omega, by rw [hn, ← Nat.pow_add]; congr 1; omega, c3⟩
      · rw [if_neg c3] at h; cases h
    · rw [if_neg c2] at h; cases h
  · rw [if_neg c] at h; exact absurd h c
def partsO (L : Int) (B : List Bool) (H : List E) : List E := if partsE L B H = 0 then partsL L.toNat B H else []
theorem partsL_length (l : Nat) (B : List Bool) (H : List E) : (partsL l B H).length = 2 ^ l := tabL_length _ _
theorem partsL_all {l : Nat} (hl : l ≤ 7) (B : List Bool) {H : List E} (hH : AllS (l : Int) H) : AllS (l : Int) (partsL l B H) :=
  tabL_all hl _ _ (fun v _ => sumN_in _ _ (fun x _ => pick_in _ (weight_in hl H x (inL_all hH))))
end Go.Proofs.Ytfmjodlcjaflfaa.Sp
namespace Go.Proofs.Ytfmjodlcjaflfaa.Sp
open Go.Proofs.Ytfmjodlcjaflfaa.V.B Go.RowKit Go.Proofs.Ytfmjodlcjaflfaa.B Go.Proofs.Ytfmjodlcjaflfaa.V.B.Ar Go.Proofs.Ytfmjodlcjaflfaa.V.B.Tw
set_option linter.unusedVariables false
set_option linter.unusedSimpArgs false
theorem sumN_blocks (f : Nat → E) (n : Nat) : ∀ m, sumN f (m * n) = sumN (fun x => sumN (fun v => f (x * n + v)) n) m
  | 0 => by rw [Nat.zero_mul]; rfl
  | m + 1 => by rw [Nat.succ_mul, sumN_split, sumN_blocks f n m, sumN]
/-- A corner's weight at a point of two parts. -/
theorem weight_append (H : List E) (x : Nat) : ∀ (P : List E) (v : Nat), v < 2 ^ P.length → weight (P ++ H) (x * 2 ^ P.length + v) = weight P v * weight H x
  | [], v, h => by
    have : v = 0 := by
      have h1 : (2 : Nat) ^ ([] : List E).length = 1 := rfl
      omega
    subst this
    show weight H (x * 1 + 0) = weight [] 0 * weight H x
    rw [Nat.mul_one, Nat.add_zero, weight, one_mul]
  | q :: Q, v, h => by
    rw [List.length_cons, Nat.pow_succ] at h
    have e1 : (x * 2 ^ (q :: Q).length + v) % 2 = v % 2 := by
      rw [List.length_cons, Nat.pow_succ, ← Nat.mul_assoc]; omega
    have e2 : (x * 2 ^ (q :: Q).length + v) / 2 = x * 2 ^ Q.length + v / 2 := by
      rw [List.length_cons, Nat.pow_succ, ← Nat.mul_assoc]; omega
    rw [List.cons_append, weight, weight, e1, e2, weight_append H x Q (v / 2) (by omega), mul_assoc]
end Go.Proofs.Ytfmjodlcjaflfaa.Sp
namespace Go.Proofs.Ytfmjodlcjaflfaa.Sp
open Go.Proofs.Ytfmjodlcjaflfaa.V.B Go.RowKit Go.Proofs.Ytfmjodlcjaflfaa.B Go.Proofs.Ytfmjodlcjaflfaa.V.B.Ar Go.Proofs.Ytfmjodlcjaflfaa.V.B.Tw
set_option linter.unusedVariables false
def madeN (M : List E) (x : E) (n : Nat) : E := sumN (fun i => pick (hasB x i) (M.getD i 0)) n
/-- What a map makes of an element. -/
def madeX (M : List E) (x : E) : E := madeN M x M.length
theorem getD_mapG {α β : Type} (f : α → β) (d : α) (e : β) (X : List α) (i : Nat) (h : i < X.length) : (X.map f).getD i e = f (X.getD i d) := by
  rw [List.getD_eq_getElem?_getD, List.getD_eq_getElem?_getD, List.getElem?_map, List.getElem?_eq_getElem h]; rfl
theorem madeN_succ (M : List E) (x : E) (i : Nat) : madeN M x (i + 1) = madeN M x i + pick (hasB x i) (M.getD i 0) := by unfold madeN; rw [sumN]
/-- What a map makes, or the error. -/
def applyE (M : List E) (x : E) : Int := if M.length > 128 then 1 else if val x < 2 ^ M.length then 0 else 6
def applyX (M : List E) (x : E) : E := if applyE M x = 0 then madeX M x else 0
theorem apply_cases (M : List E) (x : E) : (M.length > 128 ∧ applyE M x = 1 ∧ applyX M x = 0) ∨ (M.length ≤ 128 ∧ val x < 2 ^ M.length ∧ applyE M x = 0 ∧ applyX M x = madeX M x) ∨ (M.length ≤ 128 ∧ ¬ val x < 2 ^ M.length ∧ applyE M x = 6 ∧ applyX M x = 0) := by
  by_cases c : M.length > 128
  · have e : applyE M x = 1 := if_pos c
    exact .inl ⟨c, e, if_neg (by rw [e]; decide)⟩
  by_cases c2 : val x < 2 ^ M.length
  · have e : applyE M x = 0 := by unfold applyE; rw [if_neg c, if_pos c2]
    exact .inr (.inl ⟨by omega, c2, e, if_pos e⟩)
  · have e : applyE M x = 6 := by unfold applyE; rw [if_neg c, if_neg c2]
    exact .inr (.inr ⟨by omega, c2, e, if_neg (by rw [e]; decide)⟩)
/-- One map behind another one, or the error. -/
def thenE (A B : List E) : Int := if A.length > 128 ∨ B.length > 128 then 1 else if InN B.length A then 0 else 6
def thenR (A B : List E) : List E := if thenE A B = 0 then A.map (madeX B) else []
theorem then_cases (A B : List E) : ((A.length > 128 ∨ B.length > 128) ∧ thenE A B = 1 ∧ thenR A B = []) ∨ ((A.length ≤ 128 ∧ B.length ≤ 128) ∧ InN B.length A ∧ thenE A B = 0 ∧ thenR A B = A.map (madeX B)) ∨ ((A.length ≤ 128 ∧ B.length ≤ 128) ∧ ¬ InN B.length A ∧ thenE A B = 6 ∧ thenR A B = []) := by
  by_cases c : A.length > 128 ∨ B.length > 128
  · have e : thenE A B = 1 := if_pos c
    exact .inl ⟨c, e, if_neg (by rw [e]; decide)⟩
  by_cases c2 : InN B.length A
  · have e : thenE A B = 0 := by unfold thenE; rw [if_neg c, if_pos c2]
    exact .inr (.inl ⟨by omega, c2, e, if_pos e⟩)
  · have e : thenE A B = 6 := by unfold thenE; rw [if_neg c, if_neg c2]
    exact .inr (.inr ⟨by omega, c2, e, if_neg (by rw [e]; decide)⟩)
/-- One map behind another one makes what both make, one behind the other. -/
theorem made_made (A B : List E) (x : E) : madeX B (madeX A x) = madeX (A.map (madeX B)) x := by
  have h1 : madeX B (madeX A x) = sumN (fun i => sumN (fun u => pick (hasB x u) (pick (hasB (A.getD u 0) i) (B.getD i 0))) A.length) B.length := by
    unfold madeX madeN
    apply sumN_congr
    intro i _
    rw [pick_hasB_sum]
    exact sumN_congr _ (fun u _ => pick_hasB_pick _ _ _ _)
  have h2 : madeX (A.map (madeX B)) x = sumN (fun u => pick (hasB x u) (madeX B (A.getD u 0))) A.length := by
    unfold madeX madeN
    rw [List.length_map]
    apply sumN_congr
    intro u hu
    rw [getD_mapG (fun x => sumN (fun i => pick (hasB x i) (B.getD i 0)) B.length) 0 0 A u hu]
  rw [h1, h2, sumN_swap]
  apply sumN_congr
  intro u _
  unfold madeX madeN
  rw [pick_sum]
theorem val_sum_lt (m : Nat) (f : Nat → E) : ∀ n, (∀ i, i < n → val (f i) < 2 ^ m) → val (sumN f n) < 2 ^ m
  | 0, _ => by rw [sumN, val_zero]; exact Nat.two_pow_pos m
  | n + 1, h => by
    rw [sumN, val_add]
    exact Nat.xor_lt_two_pow (val_sum_lt m f n (fun i hi => h i (by omega))) (h n (by omega))
theorem made_in (A : List E) (m : Nat) (hA : InN m A) (x : E) : val (madeX A x) < 2 ^ m := by
  unfold madeX madeN
  apply val_sum_lt
  intro i hi'
  have hg : A.getD i 0 ∈ A := by
    rw [List.getD_eq_getElem?_getD, List.getElem?_eq_getElem hi']; exact List.getElem_mem hi'
  cases hasB x i with
  | true => rw [pick_true]; exact hA _ hg
  | false => rw [pick_false, val_zero]; exact Nat.two_pow_pos m
end Go.Proofs.Ytfmjodlcjaflfaa.Sp
namespace Go.Proofs.Ytfmjodlcjaflfaa.Sp
open Go.Proofs.Ytfmjodlcjaflfaa.V.B Go.RowKit Go.Proofs.Ytfmjodlcjaflfaa.B Go.Proofs.Ytfmjodlcjaflfaa.V.B.Ar Go.Proofs.Ytfmjodlcjaflfaa.V.B.Tw
set_option linter.unusedVariables false
/-- The mask. -/
def maskX (H R : List E) (x : Nat) : E := madeX (weightsL R) (weight H x)
def masksL (H R : List E) : List E := tabL (2 ^ H.length) (maskX H R)
def maskE (L : Int) (H R : List E) : Int := if LvS L then (if H.length > 12 ∨ (R.length : Int) ≠ L then 6 else if AllS L H ∧ AllS L R then 0 else 5) else 1
theorem mask_in {L : Int} {H R : List E} (h : maskE L H R = 0) : ∃ l : Nat, L = (l : Int) ∧ l ≤ 7 ∧ H.length ≤ 12 ∧ R.length = l ∧ AllS (l : Int) H ∧ AllS (l : Int) R := by
  unfold maskE at h
  by_cases hL : LvS L
  rotate_left
  · rw [if_neg hL] at h; cases h
  rw [if_pos hL] at h
  by_cases c : H.length > 12 ∨ (R.length : Int) ≠ L
  · rw [if_pos c] at h; cases h
  rw [if_neg c] at h
  by_cases c2 : AllS L H ∧ AllS L R
  · obtain ⟨l, rfl⟩ := Int.eq_ofNat_of_zero_le hL.1
    exact ⟨l, rfl, by have := hL.2; omega, by omega, by omega, c2.1, c2.2⟩
  · rw [if_neg c2] at h; cases h
def maskO (L : Int) (H R : List E) : List E := if maskE L H R = 0 then masksL H R else []
theorem masksL_length (H R : List E) : (masksL H R).length = 2 ^ H.length := tabL_length _ _
theorem masksL_all {l : Nat} (hl : l ≤ 7) {H R : List E} (aR : AllS (l : Int) R) : AllS (l : Int) (masksL H R) :=
  tabL_all hl _ _ (fun x _ => sumN_in _ _ (fun i _ => pick_in _ (allS_getD (weights_all hl R aR) i)))
end Go.Proofs.Ytfmjodlcjaflfaa.Sp
namespace Go.Proofs.Ytfmjodlcjaflfaa.Sp
open Go.Proofs.Ytfmjodlcjaflfaa.V.B Go.RowKit Go.Proofs.Ytfmjodlcjaflfaa.B Go.Proofs.Ytfmjodlcjaflfaa.V.B.Ar Go.Proofs.Ytfmjodlcjaflfaa.V.B.Tw
set_option linter.unusedVariables false
set_option linter.unusedSimpArgs false
/-- The first k of numbers of b bits, side by side. -/
def gv (f : Nat → Nat) (b : Nat) : Nat → Nat
  | 0 => 0
  | k + 1 => gv f b k + f k * 2 ^ (b * k)
theorem gv_lt {f : Nat → Nat} {b : Nat} : ∀ k, (∀ j, j < k → f j < 2 ^ b) → gv f b k < 2 ^ (b * k)
  | 0, _ => by simp [gv]
  | k + 1, h => by
    have h1 := gv_lt k (fun j hj => h j (by omega))
    have h2 := h k (by omega)
    show gv f b k + f k * 2 ^ (b * k) < 2 ^ (b * (k + 1))
    rw [Nat.mul_succ, Nat.pow_add, Nat.mul_comm (2 ^ (b * k))]
    have h3 : (f k + 1) * 2 ^ (b * k) ≤ 2 ^ b * 2 ^ (b * k) := Nat.mul_le_mul_right _ h2
    rw [Nat.add_mul, Nat.one_mul] at h3
    omega
theorem gv_bit {f : Nat → Nat} {b : Nat} (hb : 0 < b) : ∀ k, (∀ j, j < k → f j < 2 ^ b) → ∀ n, n < b * k → (gv f b k).testBit n = (f (n / b)).testBit (n % b)
  | 0, _, n, hn => by simp at hn
  | k + 1, h, n, hn => by
    have h1 := gv_lt k (fun j hj => h j (by omega))
    show (gv f b k + f k * 2 ^ (b * k)).testBit n = _
    rw [Nat.add_comm, Nat.mul_comm (f k), Nat.testBit_two_pow_mul_add _ h1]
    by_cases c : n < b * k
    · rw [if_pos c]; exact gv_bit hb k (fun j hj => h j (by omega)) n c
    · rw [if_neg c]
      have hq : n / b = k := by
        rw [Nat.div_eq_of_lt_le]
        · rw [Nat.mul_comm]; omega
        · rw [Nat.mul_comm]; exact hn
      have hr : n % b = n - b * k := by
        have := Nat.div_add_mod n b
        rw [hq] at this; omega
      rw [hq, hr]
theorem gv_get {f : Nat → Nat} {b : Nat} (hb : 0 < b) {k : Nat} (h : ∀ j, j < k → f j < 2 ^ b) {j : Nat} (hj : j < k) : gv f b k / 2 ^ (b * j) % 2 ^ b = f j := by
  apply Nat.eq_of_testBit_eq
  intro i
  rw [Nat.testBit_mod_two_pow, Nat.testBit_div_two_pow]
  by_cases c : i < b
  · have hlt : i + b * j < b * k := by
      have : b * (j + 1) ≤ b * k := Nat.mul_le_mul_left _ hj
      rw [Nat.mul_succ] at this; omega
    rw [gv_bit hb k h _ hlt, Nat.add_mul_div_left _ _ hb, Nat.add_mul_mod_self_left, Nat.div_eq_of_lt c, Nat.mod_eq_of_lt c, Nat.zero_add]
    simp [c]
  · have : (f j).testBit i = false := Nat.testBit_lt_two_pow (Nat.lt_of_lt_of_le (h j hj) (Nat.pow_le_pow_right (by decide) (by omega)))
    simp [c, this]
theorem gv_congr {f g : Nat → Nat} {b : Nat} : ∀ k, (∀ j, j < k → f j = g j) → gv f b k = gv g b k
  | 0, _ => rfl
  | k + 1, h => by
    show gv f b k + f k * 2 ^ (b * k) = gv g b k + g k * 2 ^ (b * k)
    rw [gv_congr k (fun j hj => h j (by omega)), h k (by omega)]
theorem gv_split (v b : Nat) (hb : 0 < b) : ∀ k, gv (fun k => v / 2 ^ (b * k) % 2 ^ b) b k = v % 2 ^ (b * k)
  | 0 => by simp [gv, Nat.mod_one]
  | k + 1 => by
    show gv _ b k + v / 2 ^ (b * k) % 2 ^ b * 2 ^ (b * k) = _
    rw [gv_split v b hb k, Nat.mul_succ, Nat.pow_add, Nat.mod_mul, Nat.mul_comm (2 ^ (b * k))]
theorem hi_of {v : Nat} (h : v < 2 ^ 128) : hi (of 7 v) = ((v / 2 ^ 64 : Nat) : Int) := by
  unfold hi; rw [of_succ, mk_fst, val_of 6 _ (by rw [Q_six]; omega), Q_six]
theorem lo_of {v : Nat} (h : v < 2 ^ 128) : lo (of 7 v) = ((v % 2 ^ 64 : Nat) : Int) := by
  unfold lo; rw [of_succ, mk_snd, val_of 6 _ (by rw [Q_six]; omega), Q_six]
theorem val_of7 {v : Nat} (h : v < 2 ^ 128) : val (of 7 v) = v := val_of 7 v (by rw [Q_seven]; exact h)
theorem val_lt128 (x : E) : val x < 2 ^ 128 := by have := val_lt x; rwa [Q_seven] at this
theorem val_h (x : E) : val x.1 = val x / 2 ^ 64 := by rw [← val_div x]; rfl
theorem val_l (x : E) : val x.2 = val x % 2 ^ 64 := by rw [← val_mod x]; rfl
theorem hi_v (x : E) : hi x = ((val x / 2 ^ 64 : Nat) : Int) := by unfold hi; rw [val_h]
theorem lo_v (x : E) : lo x = ((val x % 2 ^ 64 : Nat) : Int) := by unfold lo; rw [val_l]
theorem shlu (a w : Nat) (h : w ≤ 64) : shl .u64 (a : Int) (w : Int) = ((a * 2 ^ w % 2 ^ 64 : Nat) : Int) := by
  unfold shl
  have h64 : IntKind.u64.bits = 64 := rfl
  rw [h64, Int.toNat_natCast, Nat.min_eq_left h]
  have hc : (a : Int) * 2 ^ w = ((a * 2 ^ w : Nat) : Int) := by simp
  rw [hc]
  generalize a * 2 ^ w = p
  simp [IntKind.wrap, IntKind.bits, IntKind.signed]
theorem shli (a w : Nat) (h : w ≤ 62) (hp : a * 2 ^ w ≤ 4611686018427387904) : shl .i64 (a : Int) (w : Int) = ((a * 2 ^ w : Nat) : Int) := by
  unfold shl
  have h64 : IntKind.i64.bits = 64 := rfl
  rw [h64, Int.toNat_natCast, Nat.min_eq_left (by omega)]
  have hc : (a : Int) * 2 ^ w = ((a * 2 ^ w : Nat) : Int) := by simp
  rw [hc]
  generalize a * 2 ^ w = p at hp
  exact i64_id (by omega) (by omega)
theorem split64 (v : Nat) : v = 2 ^ 64 * (v / 2 ^ 64) + v % 2 ^ 64 := (Nat.div_add_mod v (2 ^ 64)).symm
/-- So many bits higher. -/
theorem up_hi (v n : Nat) (hn : n < 64) (h : v * 2 ^ n < 2 ^ 128) : (v / 2 ^ 64 * 2 ^ n % 2 ^ 64) ||| (v % 2 ^ 64 / 2 ^ (64 - n)) = v * 2 ^ n / 2 ^ 64 := by
  apply Nat.eq_of_testBit_eq
  intro i
  rw [Nat.testBit_or, Nat.testBit_mod_two_pow, Nat.testBit_mul_two_pow, Nat.testBit_div_two_pow, Nat.testBit_div_two_pow, Nat.testBit_mod_two_pow, Nat.testBit_div_two_pow, Nat.testBit_mul_two_pow]
  by_cases c : i < 64
  · by_cases d : n ≤ i
    · have e1 : ¬ (i + (64 - n) < 64) := by omega
      have e2 : n ≤ i + 64 := by omega
      have e3 : i - n + 64 = i + 64 - n := by omega
      simp [c, d, e1, e2, e3]
    · have e1 : i + (64 - n) < 64 := by omega
      have e2 : n ≤ i + 64 := by omega
      have e3 : i + (64 - n) = i + 64 - n := by omega
      have e4 : i + 64 - n < 64 := by omega
      simp [c, d, e1, e2, e3, e4]
  · have e1 : ¬ (i + (64 - n) < 64) := by omega
    have hbit : (v * 2 ^ n).testBit (i + 64) = false := Nat.testBit_lt_two_pow (Nat.lt_of_lt_of_le h (Nat.pow_le_pow_right (by decide) (by omega)))
    rw [Nat.testBit_mul_two_pow] at hbit
    simp [c, e1]
    simpa using hbit
theorem up_eq (k : Nat) (x : E) (n : Nat) (hn : n < 128) (h : val x * 2 ^ n < 2 ^ 128) : weave_up.f k (toS x) (n : Int) = some (toS (of 7 (val x * 2 ^ n))) := by
  unfold weave_up.f
  have et : toS (of 7 (val x * 2 ^ n)) = ⟨((val x * 2 ^ n / 2 ^ 64 : Nat) : Int), ((val x * 2 ^ n % 2 ^ 64 : Nat) : Int)⟩ := by unfold toS; rw [hi_of h, lo_of h]
  rw [et, toS_f0, toS_f1]
  by_cases c0 : (n : Int) = 0
  · rw [if_pos c0]
    have : n = 0 := by omega
    subst this
    unfold toS
    rw [hi_v, lo_v]
    simp
  rw [if_neg c0]
  by_cases c : (n : Int) ≥ 64
  · have e : wrap64 ((n : Int) - 64) = ((n - 64 : Nat) : Int) := by rw [w64_id (by omega) (by omega)]; omega
    rw [if_pos c, e, if_pos (Int.natCast_nonneg _), lo_v, shlu _ _ (by omega)]
    have hsmall : val x < 2 ^ 64 := by
      rcases Nat.lt_or_ge (val x) (2 ^ 64) with g | g
      · exact g
      · exfalso
        have h1 : 2 ^ 64 * 2 ^ 64 ≤ val x * 2 ^ n := Nat.mul_le_mul g (Nat.pow_le_pow_right (by decide) (by omega))
        have : (2 : Nat) ^ 64 * 2 ^ 64 = 2 ^ 128 := by decide
        omega
    have hpn : 2 ^ n = 2 ^ (n - 64) * 2 ^ 64 := by rw [← Nat.pow_add]; congr 1; omega
    rw [Nat.mod_eq_of_lt hsmall]
    have e2 : val x * 2 ^ n = val x * 2 ^ (n - 64) * 2 ^ 64 := by rw [hpn, Nat.mul_assoc]
    rw [e2] at h ⊢
    have h4 : val x * 2 ^ (n - 64) < 2 ^ 64 := by
      have : (2 : Nat) ^ 128 = 2 ^ 64 * 2 ^ 64 := by decide
      rw [this] at h
      exact Nat.lt_of_mul_lt_mul_right h
    rw [Nat.mod_eq_of_lt h4, Nat.mul_mod_left, Nat.mul_div_cancel _ (Nat.two_pow_pos 64)]
    rfl
  · have e : wrap64 (64 - (n : Int)) = ((64 - n : Nat) : Int) := by rw [w64_id (by omega) (by omega)]; omega
    rw [if_neg c, if_pos (Int.natCast_nonneg _), e, if_pos (Int.natCast_nonneg _), hi_v, lo_v, shlu _ _ (by omega), shlu _ _ (by omega), shr_u64 _ _ (by omega)]
    rw [or_u64 _ _ (Nat.mod_lt _ (Nat.two_pow_pos 64)) (Nat.lt_of_le_of_lt (Nat.div_le_self _ _) (Nat.mod_lt _ (Nat.two_pow_pos 64))), up_hi _ _ (by omega) h, Nat.mod_mul_mod, if_pos (Int.natCast_nonneg _)]
theorem up_ev (x : E) (n : Nat) (hn : n < 128) (h : val x * 2 ^ n < 2 ^ 128) : Ev (fun k => weave_up.f k (toS x) (n : Int)) (toS (of 7 (val x * 2 ^ n))) := ⟨0, fun k _ => up_eq k x n hn h⟩
/-- So many bits lower. -/
theorem down_lo (v n : Nat) (hn : n < 64) : (v % 2 ^ 64 / 2 ^ n) ||| (v / 2 ^ 64 * 2 ^ (64 - n) % 2 ^ 64) = v / 2 ^ n % 2 ^ 64 := by
  apply Nat.eq_of_testBit_eq
  intro i
  rw [Nat.testBit_or, Nat.testBit_mod_two_pow, Nat.testBit_mul_two_pow, Nat.testBit_div_two_pow, Nat.testBit_div_two_pow, Nat.testBit_mod_two_pow, Nat.testBit_mod_two_pow, Nat.testBit_div_two_pow]
  by_cases c : i < 64
  · by_cases d : i + n < 64
    · have e1 : ¬ (64 - n ≤ i) := by omega
      simp [c, d, e1]
    · have e1 : 64 - n ≤ i := by omega
      have e3 : i - (64 - n) + 64 = i + n := by omega
      simp [c, d, e1, e3]
  · have d : ¬ (i + n < 64) := by omega
    simp [c, d]
end Go.Proofs.Ytfmjodlcjaflfaa.Sp
namespace Go.Proofs.Ytfmjodlcjaflfaa.Sp
open Go.Proofs.Ytfmjodlcjaflfaa.V.B Go.RowKit Go.Proofs.Ytfmjodlcjaflfaa.B Go.Proofs.Ytfmjodlcjaflfaa.V.B.Ar Go.Proofs.Ytfmjodlcjaflfaa.V.B.Tw
set_option linter.unusedVariables false
set_option linter.unusedSimpArgs false
/-- Two levels, one not above the other. -/
def LvTwo (F T : Int) : Prop := LvS F ∧ LvS T ∧ F ≤ T
instance (F T : Int) : Decidable (LvTwo F T) := by unfold LvTwo; infer_instance
theorem weave_ask_ev (F T : Int) : Ev (fun k => weave_ask.f k F T) (if LvTwo F T then 0 else 1) := by
  unfold weave_ask.f
  by_cases g : LvS F
  · obtain ⟨v, hv, hw⟩ := wide_in g
    refine Ev.bnd hw (Ev.neg hv ?_)
    by_cases g2 : LvS T
    · obtain ⟨v2, hv2, hw2⟩ := wide_in g2
      refine Ev.bnd hw2 (Ev.neg hv2 ?_)
      by_cases g3 : T < F
      · rw [if_neg (fun h : LvTwo F T => by have := h.2.2; omega)]
        exact Ev.pos g3 (Ev.ret _)
      · rw [if_pos (show LvTwo F T from ⟨g, g2, by omega⟩)]
        exact Ev.neg g3 (Ev.ret _)
    · rw [if_neg (fun h : LvTwo F T => g2 h.2.1)]
      exact Ev.bnd (wide_out g2) (Ev.pos rfl (Ev.ret _))
  · rw [if_neg (fun h : LvTwo F T => g h.1)]
    exact Ev.bnd (wide_out g) (Ev.pos rfl (Ev.ret _))
/-- So many elements of a list, from a place, side by side. -/
def part (X : List E) (b m g k : Nat) : E := of 7 (gv (fun j => val (X.getD (g * m + j) 0)) b k)
def full (X : List E) (b m G : Nat) : List E := (List.range G).map fun g => part X b m g m
theorem full_length (X : List E) (b m G : Nat) : (full X b m G).length = G := by unfold full; rw [List.length_map, List.length_range]
theorem full_succ (X : List E) (b m G : Nat) : full X b m (G + 1) = full X b m G ++ [part X b m G m] := by unfold full; rw [List.range_succ, List.map_append]; rfl
theorem getD_in {L : Nat} {X : List E} (h : AllS (L : Int) X) (i : Nat) : val (X.getD i 0) < 2 ^ 2 ^ L := by
  rw [List.getD_eq_getElem?_getD]
  cases e : X[i]? with
  | none => exact inL_zero L
  | some y =>
    have := (h y (List.mem_of_getElem? e)).2.2
    rwa [Int.toNat_natCast] at this
theorem add_side {a c s : Nat} (ha : a < 2 ^ s) (h : a + c * 2 ^ s < 2 ^ 128) : of 7 a + of 7 (c * 2 ^ s) = of 7 (a + c * 2 ^ s) := by
  have h1 : a < 2 ^ 128 := by omega
  have h2 : c * 2 ^ s < 2 ^ 128 := by omega
  apply val_inj
  rw [val_add, val_of7 h1, val_of7 h2, val_of7 h]
  apply Nat.eq_of_testBit_eq
  intro i
  rw [Nat.testBit_xor, Nat.testBit_mul_two_pow, Nat.add_comm a, Nat.mul_comm c, Nat.testBit_two_pow_mul_add _ ha]
  by_cases d : i < s
  · rw [if_pos d]; simp [show ¬ s ≤ i by omega]
  · rw [if_neg d, Nat.testBit_lt_two_pow (Nat.lt_of_lt_of_le ha (Nat.pow_le_pow_right (by decide) (by omega)))]; simp [show s ≤ i by omega]
theorem set_snoc {α : Type} (A : List α) (y z : α) : (A ++ [y]).set A.length z = A ++ [z] := by
  rw [List.set_append_right _ _ (Nat.le_refl _), Nat.sub_self]; rfl
theorem getD_snoc {α : Type} (A : List α) (y d : α) : (A ++ [y]).getD A.length d = y := by
  rw [List.getD_eq_getElem?_getD, List.getElem?_append_right (Nat.le_refl _), Nat.sub_self]; rfl
theorem pow_bd {l t : Nat} (hlt : l ≤ t) (ht : t ≤ 7) : 2 ^ l * 2 ^ (t - l) = 2 ^ t ∧ 2 ^ t ≤ 128 ∧ 0 < 2 ^ l ∧ 0 < 2 ^ (t - l) := by
  refine ⟨by rw [← Nat.pow_add]; congr 1; omega, Nat.pow_le_pow_right (n := 2) (by decide) ht, Nat.two_pow_pos _, Nat.two_pow_pos _⟩
/-- The step that adds an element to the last one. -/
theorem gather_tail {l m t : Nat} (hl : l ≤ 7) (hm : 0 < m) (hbm : 2 ^ l * m = 2 ^ t) (ht : 2 ^ t ≤ 128) (X : List E) (hX : X.length ≤ 1000000) (hA : AllS (l : Int) X) (A : List E) (g k i : Nat) (hk : k < m) (hi : i = g * m + k) (hiX : i < X.length) (hAl : A.length ≤ 1000000) (R : List S34 × Int)
    (h : Ev (fun q => weave_Gather.l11 q (l : Int) (m : Int) (X.map toS) ((X.length : Nat) : Int) ((i + 1 : Nat) : Int) ((A ++ [part X (2 ^ l) m g (k + 1)]).map toS)) R) (Y : List S34) (hY : Y = (A ++ [part X (2 ^ l) m g k]).map toS) :
    Ev (fun q => weave_Gather.j15 q (l : Int) (m : Int) (i : Int) (X.map toS) ((X.length : Nat) : Int) (i : Int) Y (Sp.hi (X.getD i 0)) (lo (X.getD i 0))) R := by
  have hb : 0 < 2 ^ l := Nat.two_pow_pos l
  have hkb : k * 2 ^ l + 2 ^ l ≤ 2 ^ t := by
    have : 2 ^ l * (k + 1) ≤ 2 ^ l * m := Nat.mul_le_mul_left _ hk
    rw [Nat.mul_succ, Nat.mul_comm] at this; omega
  have hlen : Y.length = A.length + 1 := by rw [hY, List.length_map, List.length_append]; rfl
  have e1 : wrap64 ((Y.length : Int) - 1) = (A.length : Int) := by rw [hlen, w64_id (by omega) (by omega)]; omega
  have e2 : Int.tmod (i : Int) (m : Int) = (k : Int) := by
    rw [← Int.ofNat_tmod, hi, Nat.mul_comm, Nat.mul_add_mod, Nat.mod_eq_of_lt hk]
  have e3 : shl .i64 (k : Int) (l : Int) = ((k * 2 ^ l : Nat) : Int) := shli k l (by omega) (by omega)
  have hv := getD_in hA i
  have h128 : val (X.getD i 0) * 2 ^ (k * 2 ^ l) < 2 ^ 128 := by
    have h1 : val (X.getD i 0) * 2 ^ (k * 2 ^ l) < 2 ^ 2 ^ l * 2 ^ (k * 2 ^ l) := Nat.mul_lt_mul_of_pos_right hv (Nat.two_pow_pos _)
    rw [← Nat.pow_add] at h1
    exact Nat.lt_of_lt_of_le h1 (Nat.pow_le_pow_right (by decide) (by omega))
  have hsum : part X (2 ^ l) m g k + of 7 (val (X.getD i 0) * 2 ^ (k * 2 ^ l)) = part X (2 ^ l) m g (k + 1) := by
    have hg : ∀ j, val (X.getD (g * m + j) 0) < 2 ^ 2 ^ l := fun j => getD_in hA _
    have hlt := gv_lt (f := fun j => val (X.getD (g * m + j) 0)) (b := 2 ^ l) k (fun j _ => hg j)
    have hlt2 := gv_lt (f := fun j => val (X.getD (g * m + j) 0)) (b := 2 ^ l) (k + 1) (fun j _ => hg j)
    unfold part
    show _ = of 7 (gv (fun j => val (X.getD (g * m + j) 0)) (2 ^ l) k + val (X.getD (g * m + k) 0) * 2 ^ (2 ^ l * k))
    rw [hi, Nat.mul_comm k]
    apply add_side hlt
    have h3 : 2 ^ (2 ^ l * (k + 1)) ≤ 2 ^ 128 := Nat.pow_le_pow_right (by decide) (by rw [Nat.mul_succ, Nat.mul_comm]; omega)
    exact Nat.lt_of_lt_of_le hlt2 h3
  refine Ev.step (fun q => by rw [weave_Gather.j15]) ?_
  rw [e1, e2, e3, w64_succ hiX (show X.length ≤ 4611686018427387904 by omega), toS_mk]
  have hrd : rd34 Y (A.length : Int) = toS (part X (2 ^ l) m g k) := by rw [hY, rdS, getD_snoc]
  rw [hrd]
  refine Ev.ixS (by omega) (Ev.neg (by omega) (Ev.pos (Int.natCast_nonneg _) (Ev.bnd (up_ev _ (k * 2 ^ l) (by omega) h128) (Ev.bnd (Add_ev _ _) (Ev.ixS (by omega) ?_)))))
  rw [hsum, Int.toNat_natCast]
  have hset : Y.set A.length (toS (part X (2 ^ l) m g (k + 1))) = (A ++ [part X (2 ^ l) m g (k + 1)]).map toS := by
    rw [hY, List.map_append, List.map_append]
    have := set_snoc (A.map toS) (toS (part X (2 ^ l) m g k)) (toS (part X (2 ^ l) m g (k + 1)))
    rw [List.length_map] at this
    exact this
  rw [hset]
  exact h
theorem gather_in {l m t : Nat} (hl : l ≤ 7) (hm : 0 < m) (hbm : 2 ^ l * m = 2 ^ t) (ht : 2 ^ t ≤ 128) (X : List E) (hX : X.length ≤ 1000000) (hA : AllS (l : Int) X) (g : Nat) (hg : g * m + m ≤ X.length) (R : List S34 × Int)
    (h : Ev (fun q => weave_Gather.l11 q (l : Int) (m : Int) (X.map toS) ((X.length : Nat) : Int) (((g + 1) * m : Nat) : Int) ((full X (2 ^ l) m (g + 1)).map toS)) R) :
    ∀ (d k : Nat), k + d = m → 1 ≤ k → Ev (fun q => weave_Gather.l11 q (l : Int) (m : Int) (X.map toS) ((X.length : Nat) : Int) ((g * m + k : Nat) : Int) ((full X (2 ^ l) m g ++ [part X (2 ^ l) m g k]).map toS)) R := by
  have hgl : g ≤ X.length := by
    have : g * 1 ≤ g * m := Nat.mul_le_mul_left _ hm
    omega
  intro d
  induction d with
  | zero =>
    intro k hk _
    have : k = m := by omega
    subst this
    rw [full_succ, Nat.succ_mul] at h
    exact h
  | succ d ih =>
    intro k hk h1
    have hi' : g * m + k < X.length := by omega
    have hlen : ((full X (2 ^ l) m g ++ [part X (2 ^ l) m g k]).map toS).length = g + 1 := by rw [List.length_map, List.length_append, full_length]; rfl
    refine Ev.step (fun q => by rw [weave_Gather.l11]) ?_
    refine (Ev.pos (by omega) (Ev.pos (Int.natCast_nonneg _) (Ev.pos (by rw [List.length_map]; omega) (Ev.neg (by omega) (Ev.neg ?_ ?_)))))
    · rw [← Int.ofNat_tmod, Nat.mul_comm, Nat.mul_add_mod, Nat.mod_eq_of_lt (by omega)]; omega
    · simp only [rdS, toS_f0, toS_f1]
      exact gather_tail hl hm hbm ht X hX hA (full X (2 ^ l) m g) g k (g * m + k) (by omega) rfl hi' (by rw [full_length]; omega) R (ih (k + 1) (by omega) (by omega)) _ rfl
theorem gather_l0 {l m t : Nat} (hl : l ≤ 7) (hm : 0 < m) (hbm : 2 ^ l * m = 2 ^ t) (ht : 2 ^ t ≤ 128) (X : List E) (hX : X.length ≤ 1000000) (hA : AllS (l : Int) X) (G : Nat) (hG : X.length = G * m) :
    ∀ (d g : Nat), g + d = G → Ev (fun q => weave_Gather.l11 q (l : Int) (m : Int) (X.map toS) ((X.length : Nat) : Int) ((g * m : Nat) : Int) ((full X (2 ^ l) m g).map toS)) ((full X (2 ^ l) m G).map toS, 0) := by
  intro d
  induction d with
  | zero =>
    intro g hg
    have : g = G := by omega
    subst this
    exact Ev.step (fun q => by rw [weave_Gather.l11]) (Ev.neg (by omega) (Ev.ret _))
  | succ d ih =>
    intro g hg
    have hgm : g * m + m ≤ X.length := by
      have : (g + 1) * m ≤ G * m := Nat.mul_le_mul_right _ (by omega)
      rw [Nat.succ_mul] at this; omega
    have hgl : g ≤ X.length := by
      have : g * 1 ≤ g * m := Nat.mul_le_mul_left _ hm
      omega
    have hin := gather_in hl hm hbm ht X hX hA g hgm _ (ih (g + 1) (by omega)) (m - 1) 1 (by omega) (by omega)
    have hi' : g * m < X.length := by omega
    refine Ev.step (fun q => by rw [weave_Gather.l11]) ?_
    refine (Ev.pos (by omega) (Ev.pos (Int.natCast_nonneg _) (Ev.pos (by rw [List.length_map]; omega) (Ev.neg (by omega) (Ev.pos ?_ (Ev.pos (show _ + 1 ≤ 140737488355328 / 16 by rw [List.length_map, full_length]; omega) ?_))))))
    · rw [← Int.ofNat_tmod, Nat.mul_mod_left]; rfl
    · simp only [rdS, toS_f0, toS_f1]
      refine gather_tail hl hm hbm ht X hX hA (full X (2 ^ l) m g) g 0 (g * m) hm rfl hi' (by rw [full_length]; omega) _ hin _ ?_
      rw [List.map_append]
      have e : part X (2 ^ l) m g 0 = 0 := of_zero 7
      rw [e]
      congr 1
/-- What hinders gathering. -/
def gathErr (F T : Int) (X : List E) : Int := if LvTwo F T then (if X.length % 2 ^ (T.toNat - F.toNat) = 0 then (if AllS F X then 0 else 5) else 6) else 1
def gathS (F T : Int) (X : List E) : List E := full X (2 ^ F.toNat) (2 ^ (T.toNat - F.toNat)) (X.length / 2 ^ (T.toNat - F.toNat))
def gathO (F T : Int) (X : List E) : List E := if gathErr F T X = 0 then gathS F T X else []
theorem Gather_ev (F T : Int) (X : List E) (hX : X.length ≤ 1000000) : Ev (fun q => weave_Gather.f q F T (X.map toS)) ((gathO F T X).map toS, gathErr F T X) := by
  unfold weave_Gather.f gathO
  refine Ev.bnd (weave_ask_ev F T) ?_
  by_cases c : LvTwo F T
  · have hc := c
    obtain ⟨⟨hF0, hF7⟩, ⟨hT0, hT7⟩, hle⟩ := hc
    obtain ⟨l, rfl⟩ := Int.eq_ofNat_of_zero_le hF0
    obtain ⟨t, rfl⟩ := Int.eq_ofNat_of_zero_le hT0
    obtain ⟨hbm, ht, hb, hm⟩ := pow_bd (l := l) (t := t) (by omega) (by omega)
    have hE : gathErr (l : Int) (t : Int) X = if X.length % 2 ^ (t - l) = 0 then (if AllS (l : Int) X then 0 else 5) else 6 := by unfold gathErr; rw [if_pos c, Int.toNat_natCast, Int.toNat_natCast]
    rw [if_pos c]
    have hm128 : 2 ^ (t - l) ≤ 128 := by
      have : 1 * 2 ^ (t - l) ≤ 2 ^ l * 2 ^ (t - l) := Nat.mul_le_mul_right _ hb
      omega
    have e1 : wrap64 ((t : Int) - (l : Int)) = ((t - l : Nat) : Int) := w64_sub (by omega) (by omega)
    simp only [e1, shl_i64 (t - l) (by omega), List.length_map]
    refine Ev.pos trivial (Ev.pos (Int.natCast_nonneg _) (Ev.neg (by omega) ?_))
    by_cases c2 : X.length % 2 ^ (t - l) = 0
    · rw [if_pos c2] at hE
      refine Ev.pos (by rw [← Int.ofNat_tmod, c2]; rfl) (Ev.bnd (weave_of_ev (l : Int) X (by omega)) ?_)
      by_cases c3 : AllS (l : Int) X
      · rw [if_pos c3] at hE
        rw [hE, if_pos rfl]
        refine Ev.neg (by rw [decide_eq_true c3]; decide) ?_
        have hG : X.length = X.length / 2 ^ (t - l) * 2 ^ (t - l) := by
          have := Nat.div_add_mod X.length (2 ^ (t - l))
          rw [c2, Nat.add_zero, Nat.mul_comm] at this; exact this.symm
        have := gather_l0 (by omega) hm hbm ht X hX c3 _ hG _ 0 (Nat.zero_add _)
        rw [Nat.zero_mul] at this
        unfold gathS
        rw [Int.toNat_natCast, Int.toNat_natCast]
        exact this
      · rw [if_neg c3] at hE
        rw [hE, if_neg (by decide)]
        exact Ev.pos (by rw [decide_eq_false c3]; rfl) (Ev.ret _)
    · rw [if_neg c2] at hE
      rw [hE, if_neg (by decide)]
      refine Ev.neg ?_ (Ev.ret _)
      rw [← Int.ofNat_tmod]; intro h; exact c2 (Int.ofNat.inj h)
  · have hE : gathErr F T X = 1 := by unfold gathErr; rw [if_neg c]
    have hO : (if gathErr F T X = 0 then gathS F T X else []) = [] := if_neg (by rw [hE]; decide)
    rw [hO, hE, if_neg c]
    exact Ev.neg (by decide) (Ev.ret _)
end Go.Proofs.Ytfmjodlcjaflfaa.Sp
namespace Go.Proofs.Ytfmjodlcjaflfaa.Sp
open Go.Proofs.Ytfmjodlcjaflfaa.V.B Go.RowKit Go.Proofs.Ytfmjodlcjaflfaa.B Go.Proofs.Ytfmjodlcjaflfaa.V.B.Ar Go.Proofs.Ytfmjodlcjaflfaa.V.B.Tw
set_option linter.unusedVariables false
set_option linter.unusedSimpArgs false
/-- Bits as elements. -/
def bitX (b : Bool) : E := if b then 1 else 0
theorem val_bitX (b : Bool) : val (bitX b) = if b then 1 else 0 := by
  unfold bitX; cases b
  · exact val_zero 7
  · exact val_one 7
theorem all_bitX (B : List Bool) : AllS 0 (B.map bitX) := by
  intro x hx
  obtain ⟨b, _, rfl⟩ := List.mem_map.1 hx
  refine ⟨by decide, by decide, ?_⟩
  unfold InL
  rw [val_bitX]
  cases b <;> decide
theorem bitX_pick (b : Bool) (y : E) : bitX b * y = pick b y := by
  cases b
  · rw [pick_false]; exact zero_mul y
  · rw [pick_true]; exact one_mul y
theorem getD_bitX (B : List Bool) (i : Nat) : (B.map bitX).getD i 0 = bitX (B.getD i false) := by
  rw [List.getD_eq_getElem?_getD, List.getD_eq_getElem?_getD, List.getElem?_map]
  cases B[i]? with
  | none => rfl
  | some b => rfl
end Go.Proofs.Ytfmjodlcjaflfaa.Sp
namespace Go.Proofs.Ytfmjodlcjaflfaa.Sp
open Go.Proofs.Ytfmjodlcjaflfaa.V.B Go.RowKit Go.Proofs.Ytfmjodlcjaflfaa.B Go.Proofs.Ytfmjodlcjaflfaa.V.B.Ar Go.Proofs.Ytfmjodlcjaflfaa.V.B.Tw
set_option linter.unusedVariables false
theorem weaveBits_l0 (L : Int) (B : List Bool) (hB : B.length ≤ 1000000) : ∀ (d i : Nat), i + d = B.length → Ev (fun k => weave_Bits.l3 k L B ((B.length : Nat) : Int) (i : Int) (((B.take i).map bitX).map toS)) ((gathO 0 L (B.map bitX)).map toS, gathErr 0 L (B.map bitX)) := by
  intro d
  induction d with
  | zero =>
    intro i hi
    refine Ev.step (fun k => by rw [weave_Bits.l3]) (Ev.neg (by omega) ?_)
    rw [List.take_of_length_le (by omega)]
    exact Ev.bnd (Gather_ev 0 L (B.map bitX) (by rw [List.length_map]; exact hB)) (Ev.ret _)
  | succ d ih =>
    intro i hi
    have hi' : i < B.length := by omega
    have hih := ih (i + 1) (by omega)
    have hx : B.getD i false = B[i] := by rw [List.getD_eq_getElem?_getD, List.getElem?_eq_getElem hi']; rfl
    rw [List.take_succ_eq_append_getElem hi', ← hx, List.map_append, List.map_append] at hih
    have hl : (((B.take i).map bitX).map toS).length + 1 ≤ 140737488355328 / 16 := by rw [List.length_map, List.length_map, List.length_take]; omega
    refine Ev.step (fun k => by rw [weave_Bits.l3]) (Ev.pos (by omega) (Ev.pos (Int.natCast_nonneg _) (Ev.pos (by omega) ?_)))
    have hrd : rdB B (i : Int) = B.getD i false := rfl
    rw [hrd, w64_succ hi' (show B.length ≤ 4611686018427387904 by omega)]
    cases c : B.getD i false with
    | true =>
      rw [c] at hih
      exact Ev.pos rfl (Ev.bnd One_ev (Ev.pos hl hih))
    | false =>
      rw [c] at hih
      refine Ev.neg (by decide) (Ev.pos hl ?_)
      have e : [(⟨0, 0⟩ : S34)] = [bitX false].map toS := by
        show _ = [toS (bitX false)]
        have : toS (bitX false) = z34 := toS_zero
        rw [this]; rfl
      rw [e]
      exact hih
theorem weaveBits_ev (L : Int) (B : List Bool) (hB : B.length ≤ 1000000) : Ev (fun k => weave_Bits.f k L B) ((gathO 0 L (B.map bitX)).map toS, gathErr 0 L (B.map bitX)) := by
  unfold weave_Bits.f
  exact weaveBits_l0 L B hB B.length 0 (by omega)
theorem part_bit (B : List Bool) (m g k : Nat) (hm : m ≤ 128) (hk : k < m) : (val (part (B.map bitX) 1 m g m)).testBit k = B.getD (g * m + k) false := by
  have hf : ∀ j, val ((B.map bitX).getD (g * m + j) 0) < 2 ^ 1 := fun j => getD_in (L := 0) (all_bitX B) _
  have hlt := gv_lt (f := fun j => val ((B.map bitX).getD (g * m + j) 0)) (b := 1) m (fun j _ => hf j)
  unfold part
  rw [val_of7 (Nat.lt_of_lt_of_le hlt (Nat.pow_le_pow_right (by decide) (by omega))), gv_bit (by decide) m (fun j _ => hf j) k (by omega), Nat.div_one, Nat.mod_one]
  rw [List.getD_eq_getElem?_getD, List.getD_eq_getElem?_getD, List.getElem?_map]
  cases h : B[g * m + k]? with
  | none => show (val (0 : E)).testBit 0 = false; rw [val_zero]; rfl
  | some b => show (val (bitX b)).testBit 0 = b; rw [val_bitX]; cases b <;> rfl
end Go.Proofs.Ytfmjodlcjaflfaa.Sp
namespace Go.Proofs.Ytfmjodlcjaflfaa.Sp
open Go.Proofs.Ytfmjodlcjaflfaa.V.B Go.RowKit Go.Proofs.Ytfmjodlcjaflfaa.B Go.Proofs.Ytfmjodlcjaflfaa.V.B.Ar Go.Proofs.Ytfmjodlcjaflfaa.V.B.Tw
set_option linter.unusedVariables false
/-- Bits packed. -/
def packX (n : Nat) (B : List Bool) (x : Nat) : E := sumN (fun v => pick (B.getD (x * n + v) false) (bitE v)) n
def packsL (l : Nat) (B : List Bool) (m : Nat) : List E := tabL m (packX (2 ^ l) B)
theorem part_pack {l : Nat} (hl : l ≤ 7) (B : List Bool) (x : Nat) : part (B.map bitX) 1 (2 ^ l) x (2 ^ l) = packX (2 ^ l) B x := by
  have h128 := w128 hl
  have hin : InL l (part (B.map bitX) 1 (2 ^ l) x (2 ^ l)) := by
    have hf : ∀ j, val ((B.map bitX).getD (x * 2 ^ l + j) 0) < 2 ^ 1 := fun j => getD_in (L := 0) (all_bitX B) _
    have hlt := gv_lt (f := fun j => val ((B.map bitX).getD (x * 2 ^ l + j) 0)) (b := 1) (2 ^ l) (fun j _ => hf j)
    unfold InL part Q
    rw [val_of7 (Nat.lt_of_lt_of_le hlt (Nat.pow_le_pow_right (by decide) (by omega)))]
    rw [Nat.one_mul] at hlt
    exact hlt
  rw [← expand hl hin]
  unfold packX
  apply sumN_congr
  intro v hv
  have : hasB (part (B.map bitX) 1 (2 ^ l) x (2 ^ l)) v = B.getD (x * 2 ^ l + v) false := part_bit B (2 ^ l) x v h128 hv
  rw [this]
theorem full_packs {l : Nat} (hl : l ≤ 7) (B : List Bool) (G : Nat) : full (B.map bitX) 1 (2 ^ l) G = packsL l B G := by
  show (List.range G).map (fun g => part (B.map bitX) 1 (2 ^ l) g (2 ^ l)) = (List.range G).map (packX (2 ^ l) B)
  apply List.map_congr_left
  intro g _
  exact part_pack hl B g
def packO (L : Int) (B : List Bool) : List E := if askB L B.length = 0 then packsL L.toNat B (B.length / 2 ^ L.toNat) else []
theorem Pack_ev (L : Int) (B : List Bool) (hB : B.length ≤ 1000000) : Ev (fun k => ring_Pack.f k L B) ((packO L B).map toS, askB L B.length) := by
  unfold ring_Pack.f
  refine Ev.bnd (ask23_ev L B) ?_
  by_cases c : askB L B.length = 0
  · obtain ⟨l, m, rfl, hl, hlm, hm, hn, hg⟩ := ask_in c
    have hmod : 2 ^ m % 2 ^ l = 0 := Nat.mod_eq_zero_of_dvd (Nat.pow_dvd_pow 2 hlm)
    have e0 : gathErr 0 (l : Int) (B.map bitX) = 0 := by
      unfold gathErr
      have e1 : ((l : Int).toNat - (0 : Int).toNat) = l := by rw [Int.toNat_natCast]; exact Nat.sub_zero l
      rw [if_pos ⟨⟨by decide, by decide⟩, ⟨by omega, by omega⟩, by omega⟩, e1, List.length_map, hn, if_pos hmod, if_pos (all_bitX B)]
    have e2 : gathO 0 (l : Int) (B.map bitX) = packO (l : Int) B := by
      unfold gathO packO
      rw [if_pos e0, if_pos c, Int.toNat_natCast]
      unfold gathS
      have e1 : ((l : Int).toNat - (0 : Int).toNat) = l := by rw [Int.toNat_natCast]; exact Nat.sub_zero l
      rw [e1, List.length_map]
      exact full_packs hl B _
    have hw := weaveBits_ev (l : Int) B hB
    rw [e0, e2] at hw
    rw [c]
    exact Ev.pos rfl (Ev.bnd hw (Ev.ret _))
  · have e : packO L B = [] := if_neg c
    rw [e]
    exact Ev.neg c (Ev.ret _)
theorem packsL_length (l : Nat) (B : List Bool) (m : Nat) : (packsL l B m).length = m := tabL_length _ _
theorem packsL_all {l : Nat} (hl : l ≤ 7) (B : List Bool) (m : Nat) : AllS (l : Int) (packsL l B m) :=
  tabL_all hl _ _ (fun x _ => sumN_in _ _ (fun v hv => pick_in _ (bitE_in hl hv)))
/-- Sums, block by block. -/
theorem pick_mulL (b : Bool) (c y : E) : c * pick b y = pick b (c * y) := by
  cases b
  · rw [pick_false, pick_false, mul_zero]
  · rw [pick_true, pick_true]
theorem bitX_mul (b : Bool) (y : E) : bitX b * y = pick b y := by
  cases b
  · rw [pick_false]; exact zero_mul y
  · rw [pick_true]; exact one_mul y
theorem getD_bits (B : List Bool) (i : Nat) (h : i < B.length) : (B.map bitX).getD i 0 = bitX (B.getD i false) := getD_mapG bitX false 0 B i h
/-- What parts say is the bits' value. -/
theorem value_parts (l : Nat) (B : List Bool) (P H : List E) (hP : P.length = l) (hB : B.length = 2 ^ H.length * 2 ^ l) : value (partsL l B H) P = value (B.map bitX) (P ++ H) := by
  unfold value
  rw [partsL_length, List.length_map, hB, sumN_blocks]
  have h1 : sumN (fun v => (partsL l B H).getD v 0 * weight P v) (2 ^ l) = sumN (fun v => sumN (fun x => pick (B.getD (x * 2 ^ l + v) false) (weight P v * weight H x)) (2 ^ H.length)) (2 ^ l) := by
    apply sumN_congr
    intro v hv
    have : (partsL l B H).getD v 0 = partN (2 ^ l) B H (2 ^ H.length) v := tabL_getD _ _ v hv
    rw [this]
    unfold partN
    rw [← sumN_mulr]
    apply sumN_congr
    intro x _
    rw [← pick_mul, mul_comm]
  rw [h1, sumN_swap]
  apply sumN_congr
  intro x hx
  apply sumN_congr
  intro v hv
  have hb : x * 2 ^ l + v < B.length := by
    rw [hB]
    exact Nat.lt_of_lt_of_le (Nat.add_lt_add_left hv _) (by rw [← Nat.succ_mul]; exact Nat.mul_le_mul_right _ hx)
  have hwa := weight_append H x P v (by rw [hP]; exact hv)
  rw [hP] at hwa
  rw [getD_bits B _ hb, bitX_mul, hwa]
/-- Batched they are the sum of the packed table times the mask. -/
theorem batch_switch (l : Nat) (B : List Bool) (H R : List E) (hR : R.length = l) : batch (partsL l B H) R = sumN (fun x => (packsL l B (2 ^ H.length)).getD x 0 * (masksL H R).getD x 0) (2 ^ H.length) := by
  have h1 : batch (partsL l B H) R = sumN (fun u => sumN (fun v => sumN (fun x => pick (B.getD (x * 2 ^ l + v) false) (pick (hasB (weight H x) u) (weight R u * bitE v))) (2 ^ H.length)) (2 ^ l)) (2 ^ l) := by
    unfold batch turnN
    rw [partsL_length]
    apply sumN_congr
    intro u _
    rw [← sumN_mul]
    apply sumN_congr
    intro v hv
    have : (partsL l B H).getD v 0 = partN (2 ^ l) B H (2 ^ H.length) v := tabL_getD _ _ v hv
    rw [this]
    unfold partN
    rw [pick_hasB_sum, ← sumN_mul]
    apply sumN_congr
    intro x _
    rw [pick_hasB_pick, pick_mulL, pick_mulL]
  have h2 : sumN (fun x => (packsL l B (2 ^ H.length)).getD x 0 * (masksL H R).getD x 0) (2 ^ H.length) = sumN (fun x => sumN (fun v => sumN (fun u => pick (B.getD (x * 2 ^ l + v) false) (pick (hasB (weight H x) u) (weight R u * bitE v))) (2 ^ l)) (2 ^ l)) (2 ^ H.length) := by
    apply sumN_congr
    intro x hx
    have e1 : (packsL l B (2 ^ H.length)).getD x 0 = packX (2 ^ l) B x := tabL_getD _ _ x hx
    have e2 : (masksL H R).getD x 0 = maskX H R x := tabL_getD _ _ x hx
    have hrl : (weightsL R).length = 2 ^ l := by
      have : (weightsL R).length = 2 ^ R.length := tabL_length _ _
      rw [this, hR]
    rw [e1, e2]
    unfold packX maskX madeX madeN
    rw [← sumN_mulr, hrl]
    apply sumN_congr
    intro v _
    rw [← sumN_mul]
    apply sumN_congr
    intro u hu
    have e3 : (weightsL R).getD u 0 = weight R u := tabL_getD _ _ u (by rw [hR]; exact hu)
    rw [e3, ← pick_mul, pick_mulL, mul_comm (bitE v)]
  rw [h1, h2]
  rw [sumN_congr (2 ^ l) (fun u _ => sumN_swap (fun v x => pick (B.getD (x * 2 ^ l + v) false) (pick (hasB (weight H x) u) (weight R u * bitE v))) (2 ^ l) (2 ^ H.length))]
  rw [sumN_swap (fun u x => sumN (fun v => pick (B.getD (x * 2 ^ l + v) false) (pick (hasB (weight H x) u) (weight R u * bitE v))) (2 ^ l)) (2 ^ l) (2 ^ H.length)]
  apply sumN_congr
  intro x _
  exact sumN_swap _ _ _
end Go.Proofs.Ytfmjodlcjaflfaa.Sp
namespace Go.Proofs.Ytfmjodlcjaflfaa.Sp
open Go.Proofs.Ytfmjodlcjaflfaa.V.B Go.RowKit Go.Proofs.Ytfmjodlcjaflfaa.B Go.Proofs.Ytfmjodlcjaflfaa.V.B.Ar Go.Proofs.Ytfmjodlcjaflfaa.V.B.Tw
set_option linter.unusedVariables false
set_option linter.unusedSimpArgs false
theorem fine_ev : Ev (fun k => steepletop_fine.f k) true := Ev.at 400 fun k => by kernel_rfl
/-- A row, as far as it has come. -/
def prD (l i p : Nat) : E := sumN (fun u => pick (tb l u (bitE p)) (bitE u)) i
def stD (l i j p : Nat) : E := if p < j then prD l (i + 1) p else prD l i p
theorem dual_l9 {l : Nat} (hl : l ≤ 5) {i : Nat} (hi' : i < 2 ^ l) {R : List S34} (h : Ev (fun k => frob_Dual.l6 k (l : Int) ((2 ^ l : Nat) : Int) ((2 ^ l : Nat) : Int) ((i + 1 : Nat) : Int) ((tabL (2 ^ l) (prD l (i + 1))).map toS)) R) :
    Ev (fun k => frob_Dual.l9 k (l : Int) ((2 ^ l : Nat) : Int) (i : Int) ((2 ^ l : Nat) : Int) (i : Int) ((2 ^ l : Nat) : Int) 0 ((tabL (2 ^ l) (prD l i)).map toS)) R := by
  have h7 : l ≤ 7 := by omega
  have h128 := w128 h7
  have e0 : tabL (2 ^ l) (prD l i) = tabL (2 ^ l) (stD l i 0) := tabL_congr _ fun p _ => by unfold stD; rw [if_neg (by omega)]
  rw [e0]
  refine Ev.down (g := fun j k => frob_Dual.l9 k (l : Int) ((2 ^ l : Nat) : Int) (i : Int) ((2 ^ l : Nat) : Int) (i : Int) ((2 ^ l : Nat) : Int) (j : Int) ((tabL (2 ^ l) (stD l i j)).map toS)) (n := 2 ^ l) ?_ fun j hj hjh => ?_
  · have e1 : tabL (2 ^ l) (stD l i (2 ^ l)) = tabL (2 ^ l) (prD l (i + 1)) := tabL_congr _ fun p hp => by unfold stD; rw [if_pos hp]
    rw [e1]
    refine Ev.step (fun k => by rw [frob_Dual.l9]) (Ev.neg (Int.lt_irrefl _) ?_)
    rw [w64_succ hi' (by omega)]
    exact h
  · have f0 : (j : Int) < ((2 ^ l : Nat) : Int) := by omega
    have bi := bitE_in h7 hi'
    have bj := bitE_in h7 hj
    have f1 : j < ((tabL (2 ^ l) (stD l i j)).map toS).length := by rw [List.length_map, tabL_length]; exact hj
    have eg : (tabL (2 ^ l) (stD l i j)).getD j 0 = prD l i j := by rw [tabL_getD _ _ j hj]; unfold stD; rw [if_neg (by omega)]
    have ep : prD l (i + 1) j = prD l i j + pick (tb l i (bitE j)) (bitE i) := by unfold prD; rw [sumN]
    refine Ev.step (fun k => by rw [frob_Dual.l9]) (Ev.pos f0 (Ev.bnd (towerBit_ev i (by omega)) (Ev.bnd (towerBit_ev j (by omega)) (Ev.bnd (Mul_ev h7 bi bj) (Ev.bnd (Trace_ev h7 (inL_mul h7 bi bj)) (Ev.bnd One_ev ?_))))))
    rw [w64_succ hj (by omega)]
    by_cases c : trE l (bitE i * bitE j) = 1
    · have ct : tb l i (bitE j) = true := decide_eq_true c
      rw [ct, pick_true] at ep
      have es : (tabL (2 ^ l) (stD l i j)).set j (prD l i j + bitE i) = tabL (2 ^ l) (stD l i (j + 1)) := by
        have hn : stD l i (j + 1) j = prD l i j + bitE i := by unfold stD; rw [if_pos (by omega), ep]
        rw [← hn]
        exact tabL_set _ _ _ j hj fun p _ hne => by
          unfold stD
          by_cases d : p < j
          · rw [if_pos d, if_pos (by omega)]
          · rw [if_neg d, if_neg (by omega)]
      refine Ev.pos (by rw [c]; exact ⟨rfl, rfl⟩) (Ev.ixS f1 (Ev.bnd (towerBit_ev i (by omega)) ?_))
      rw [rdS, eg]
      refine Ev.bnd (Add_ev _ _) (Ev.ixS f1 ?_)
      rw [Int.toNat_natCast, map_set, es]
      exact hjh
    · have ct : tb l i (bitE j) = false := decide_eq_false c
      rw [ct, pick_false, add_zero] at ep
      have es : tabL (2 ^ l) (stD l i (j + 1)) = tabL (2 ^ l) (stD l i j) := tabL_congr _ fun p _ => by
        unfold stD
        by_cases d : p < j
        · rw [if_pos d, if_pos (by omega)]
        · by_cases e : p = j
          · rw [e, if_pos (by omega), if_neg (by omega), ep]
          · rw [if_neg d, if_neg (by omega)]
      rw [es] at hjh
      exact Ev.neg (fun g => c (hl_inj g.1 g.2)) hjh
theorem Dual_ev {l : Nat} (hl : l ≤ 5) : ∃ Y : List E, Y.length = 2 ^ l ∧ Ev (fun k => frob_Dual.f k (l : Int)) (Y.map toS) ∧
    (∀ i, i < 2 ^ l → InL l (Y.getD i 0)) ∧ ∀ i, i < 2 ^ l → ∀ x : E, InL l x → (trE l (x * Y.getD i 0) = 1 ↔ hasB x i = true) := by
  have h7 : l ≤ 7 := by omega
  have h128 := w128 h7
  obtain ⟨Y, y1, y2, y3, y4⟩ := dual_back hl
  refine ⟨Y, y1, ?_, y3, y4⟩
  have hw := within_ev (2 ^ l) (rowsD l) (by rw [rowsD_length]; omega)
  rw [decide_eq_true (rowsD_in h7)] at hw
  have hback : Ev (fun k => span_Back.f k ((rowsD l).map toS)) (Y.map toS, 0) := by
    have hlen := rowsD_length l
    unfold span_Back.f
    rw [List.length_map]
    rw [hlen] at y2 ⊢
    exact Ev.neg (by omega) (Ev.bnd hw (Ev.neg (by decide) y2))
  obtain ⟨v, hv, hwd⟩ := wide_in (L := (l : Int)) ⟨by omega, by omega⟩
  have hs := shl_i64 l (show l ≤ 62 by omega)
  have z0 : List.replicate (2 ^ l) z34 = (tabL (2 ^ l) (prD l 0)).map toS := by
    rw [rep_zero, tabL_replicate]; rfl
  unfold frob_Dual.f
  refine Ev.bnd hwd (Ev.neg hv (Ev.pos (by omega) ?_))
  rw [hs]
  refine Ev.pos (Int.natCast_nonneg _) (Ev.pos (by omega) ?_)
  rw [Int.toNat_natCast, z0]
  refine Ev.down (g := fun i k => frob_Dual.l6 k (l : Int) ((2 ^ l : Nat) : Int) ((2 ^ l : Nat) : Int) (i : Int) ((tabL (2 ^ l) (prD l i)).map toS)) (n := 2 ^ l) ?_ fun i hil hih => ?_
  · refine Ev.step (fun k => by rw [frob_Dual.l6]) (Ev.neg (Int.lt_irrefl _) ?_)
    exact Ev.bnd hback (Ev.ret _)
  · exact Ev.step (fun k => by rw [frob_Dual.l6]) (Ev.pos (by omega) (dual_l9 hl hil hih))
theorem packX_bit {l : Nat} (hl : l ≤ 7) (B : List Bool) (g : Nat) {v : Nat} (hv : v < 2 ^ l) : hasB (packX (2 ^ l) B g) v = B.getD (g * 2 ^ l + v) false := by
  rw [← part_pack hl B g]
  exact part_bit B (2 ^ l) g v (w128 hl) hv
end Go.Proofs.Ytfmjodlcjaflfaa.Sp
namespace Go.Proofs.Ytfmjodlcjaflfaa.Pure
open Go.Proofs.Ytfmjodlcjaflfaa.V.B Go.RowKit Go.Proofs.Ytfmjodlcjaflfaa.B Go.Proofs.Ytfmjodlcjaflfaa.V.B.Ar Go.Proofs.Ytfmjodlcjaflfaa.V.B.Tw Go.Proofs.Ytfmjodlcjaflfaa.Sp
set_option linter.unusedVariables false
theorem dual_j2 : Ev (fun k => steepletop_TopDual.j2 k) true := Ev.step (fun k => by rw [steepletop_TopDual.j2]) (Ev.bnd fine_ev (Ev.ret _))
theorem TopDual : Stated.topDual.Pure := by
  rintro L ⟨B, WS, HS⟩ _ _
  refine Ev.rounds (g := fun k => steepletop_TopDual.f k L ⟨B, WS, HS⟩) ?_
  unfold steepletop_TopDual.f
  dsimp only
  refine Ev.both (fun _ => dual_j2) fun c1 => Ev.both (fun _ => dual_j2) fun c2 => Ev.both (fun _ => dual_j2) fun c3 => ?_
  refine Ev.bnd fine_ev (Ev.neg (by decide) (Ev.bnd (Pack_ev L B (by omega)) ?_))
  refine Ev.both (fun d1 => ?_) fun _ => Ev.ret _
  have d1 : askB L B.length = 0 := d1
  obtain ⟨l, m, rfl, h7, hlm, hm, hn, hg⟩ := ask_in d1
  have hl : l ≤ 5 := by omega
  have h128 := w128 h7
  have h0 := Nat.two_pow_pos l
  have hBl : B.length = 2 ^ (m - l) * 2 ^ l := by rw [hn, ← Nat.pow_add]; congr 1; omega
  have e1 : packO (l : Int) B = packsL l B (2 ^ (m - l)) := by
    unfold packO; rw [if_pos d1, Int.toNat_natCast, hBl, Nat.mul_div_cancel _ h0]
  obtain ⟨Y, y1, y2, y3, y4⟩ := Dual_ev hl
  have lp : (packsL l B (2 ^ (m - l))).length = 2 ^ (m - l) := packsL_length _ _ _
  generalize 2 ^ (m - l) = G at *
  have hG : G ≤ 130 := by
    have : G * 1 ≤ G * 2 ^ l := Nat.mul_le_mul_left _ h0
    omega
  dsimp only
  rw [e1]
  refine Ev.bnd y2 (Ev.bnd (two_ev l (by omega)) (Ev.pos (by rw [List.length_map, y1]) ?_))
  refine Ev.down (g := fun i k => steepletop_TopDual.l10 k (l : Int) (i : Int) B WS HS ((packsL l B G).map toS) (Y.map toS)) (n := B.length) ?_ fun i hil hih => ?_
  · refine Ev.step (fun k => by rw [steepletop_TopDual.l10]) ?_
    exact Ev.neg (Int.lt_irrefl _) (Ev.ret _)
  · have f0 : (i : Int) < (B.length : Int) := by omega
    have ly : ((Y.map toS).length : Int) = ((2 ^ l : Nat) : Int) := by rw [List.length_map, y1]
    have lpk : ((packsL l B G).map toS).length = G := by rw [List.length_map, lp]
    have hq0 : i / 2 ^ l < G := Nat.div_lt_of_lt_mul (by rw [Nat.mul_comm]; omega)
    have hv0 : i % 2 ^ l < 2 ^ l := Nat.mod_lt _ h0
    have t1 : Int.tdiv (i : Int) ((2 ^ l : Nat) : Int) = ((i / 2 ^ l : Nat) : Int) := by rw [Int.tdiv_eq_ediv_of_nonneg (by omega)]; exact (Int.natCast_ediv _ _).symm
    have t2 : Int.tmod (i : Int) ((2 ^ l : Nat) : Int) = ((i % 2 ^ l : Nat) : Int) := by rw [Int.tmod_eq_emod_of_nonneg (by omega)]; exact (Int.natCast_emod _ _).symm
    have hsplit : i / 2 ^ l * 2 ^ l + i % 2 ^ l = i := Nat.div_add_mod' i (2 ^ l)
    generalize i / 2 ^ l = q at hq0 t1 hsplit
    generalize i % 2 ^ l = v at hv0 t2 hsplit
    have hq := hq0
    have hv := hv0
    have t3 : wrap64 (q : Int) = (q : Int) := w64_id (by omega) (by omega)
    have hx : (packsL l B G).getD q 0 = packX (2 ^ l) B q := tabL_getD _ _ _ hq
    have hxin : InL l (packX (2 ^ l) B q) := by rw [← hx]; exact allS_getD (packsL_all h7 B G) _
    have hbit := packX_bit h7 B q hv
    rw [hsplit] at hbit
    have hyin := y3 _ hv
    have htr := y4 _ hv _ hxin
    have fq : q < ((packsL l B G).map toS).length := by rw [lpk]; exact hq
    have fr : q < ((packsL l B G).map toR).length := by rw [List.length_map, lp]; exact hq
    have fy : v < (Y.map toS).length := by rw [List.length_map, y1]; exact hv
    have hB : rdB B (i : Int) = B.getD i false := by unfold rdB; rw [Int.toNat_natCast]
    have g0 : ¬ ((2 ^ l : Nat) : Int) = 0 := fun e => Nat.ne_of_gt h0 (Int.ofNat.inj e)
    have g1 : ¬ ((q : Nat) : Int) ≥ (((packsL l B G).map toS).length : Int) := by rw [lpk]; exact Int.not_le.2 (Int.ofNat_lt.2 hq)
    have g2 : ((v : Nat) : Int) < ((2 ^ l : Nat) : Int) := Int.ofNat_lt.2 hv
    refine Ev.step (fun k => by rw [steepletop_TopDual.l10]) ?_
    rw [ly, t1, t2, t3]
    refine Ev.pos f0 (Ev.neg g0 (Ev.neg g1 (Ev.ixS fq (Ev.neg g0 ?_))))
    refine Ev.pos (Int.natCast_nonneg _) (Ev.pos g2 ?_)
    rw [rdS, rdS, hx, hB, w64_succ hil (by omega)]
    refine Ev.bnd (Mul_ev h7 hxin hyin) (Ev.bnd (Trace_ev h7 (inL_mul h7 hxin hyin)) (Ev.bnd One_ev (Ev.ixS hil ?_)))
    have hc : decide ((toS (trE l (packX (2 ^ l) B q * Y.getD v 0))).f0 = (toS 1).f0 ∧ (toS (trE l (packX (2 ^ l) B q * Y.getD v 0))).f1 = (toS 1).f1) = B.getD i false := by
      rw [← hbit]
      cases hh : hasB (packX (2 ^ l) B q) v with
      | true => exact decide_eq_true (by rw [htr.2 hh]; exact ⟨rfl, rfl⟩)
      | false => exact decide_eq_false fun g => by rw [htr.1 (hl_inj g.1 g.2)] at hh; cases hh
    refine Ev.pos hc (Ev.bnd (Ref_ev _ (by rw [lp]; omega)) (Ev.ixS fr (Ev.neg g0 ?_)))
    rw [rdR, hx]
    have hhas := Has_ev (packX (2 ^ l) B q) v (by omega)
    have hbit' : (val (packX (2 ^ l) B q)).testBit v = B.getD i false := hbit
    rw [hbit'] at hhas
    exact Ev.bnd hhas (Ev.ixS hil (Ev.pos rfl hih))
end Go.Proofs.Ytfmjodlcjaflfaa.Pure
namespace Go.Proofs.Ytfmjodlcjaflfaa.topDual
open Go.Proofs.Ytfmjodlcjaflfaa.V.B Go.ChangeShapes Go.WideShapes Go.ChangeAt Go.RowKit Go.Proofs.Ytfmjodlcjaflfaa.B
set_option linter.unusedVariables false
set_option linter.unusedSimpArgs false
theorem own : ownKnob Try.prog.godebug = none := by kernel_rfl
theorem laidOut : laidOutB Try.prog = true := by kernel_rfl
def tab1 : Tab := ⟨[(3, .int .i64), (4, .bool), (22, .slice .bool), (23, .slice (.st 0)), (25, .st 1), (32, .int .u64), (34, .st 0)], [], [(22, 1), (23, 16)], [], []⟩
theorem tab1_ok : tab1.chk E Try.prog = true := by kernel_rfl
theorem tie1 (calls : Nat → Option (Sig E.toTys)) : Tie (XR E) Try.prog (tab1.ctx calls) := tie_of zl_ok tab1_ok calls
theorem sts : chkSt E Try.prog tab1 tab1.tys = true := by kernel_rfl
set_option maxRecDepth 100000 in
theorem lifted (os : Os) (started : os.Started) (H : Type) (enc : TypeId × Value → H) :
    ReturnsInHanded {} Try.checked os 3 .any (Rows.topDualSpec.pre6 enc Try.prog Try.f3 Rows.topDualRow.domain false) (Rows.topDualSpec.post enc Try.prog Try.f3 false true false false) := by
  refine returnsInHanded_of_change_sized (C := Try.checked) own started (by kernel_rfl) Try.func3
    (ChangeSpec.witness6 (enc := enc) (C := Try.checked) false ⟨#[], #[.int .i64 0, .agg #[.slice none 0 0, .slice none 0 0, .slice none 0 0]], []⟩ 8 (by kernel_rfl) (by kernel_rfl) (by kernel_rfl) (by kernel_rfl)) ?_
  intro W base args ds gs before hval0 hW hcnd hsz0 _
  have hval : ∀ (j : Nat) t v, Try.f3.params[j]? = some t → args[j]? = some v → Value.okWide Try.prog W .any base t v := hval0
  have hW' := hW
  obtain ⟨p, q, hA0, hV, rfl, hfz, hnd⟩ := hW
  have hA : DataW.TrodAll enc Try.prog W 0 (fun _ => true) true Try.f3.params.toList args.toList ds p := hA0
  rw [Try.params3] at hA hval
  obtain ⟨v0, vs0, d0, ds0, p0, q0, hargs, rfl, rfl, h0, r0⟩ := trodAll_cons hA
  obtain ⟨v1, vs1, d1, ds1, p1, q1, rfl, rfl, rfl, h1, r1⟩ := trodAll_cons r0
  obtain ⟨rfl, rfl, rfl⟩ := trodAll_nil r1
  obtain rfl : args = #[v0, v1] := by cases args; simp_all
  obtain ⟨rfl, rfl⟩ := trodVars_none hV
  have k0 := h0
  have lt0 : ∀ x ∈ p0, x.block < W.heap.size := by obtain ⟨m, hm⟩ := k0; exact DataW.trod_lt m _ _ _ hm
  obtain ⟨x0, cs0, e0, R0, g0⟩ := arg_ok tie1 sts (t := 3) (ty := .int .i64) rfl rfl (hval 0 3 v0 rfl rfl) h0
  have k1 := h1
  have lt1 : ∀ x ∈ p1, x.block < W.heap.size := by obtain ⟨m, hm⟩ := k1; exact DataW.trod_lt m _ _ _ hm
  obtain ⟨x1, cs1, e1, R1, g1⟩ := arg_ok tie1 sts (t := 25) (ty := .st 1) rfl rfl (hval 1 25 v1 rfl rfl) h1
  clear hA0 hval0 hsz0
  obtain ⟨k, hpure⟩ := Pure.TopDual x0 x1 (g0 4) (g1 4)
  refine ((steepletop_TopDual.ok k).1 (x0, (x1, ())) true hpure W (fun b => b < W.heap.size) [v0, v1] (fun b hb => hb) ⟨_, _, cs0, rfl, R0, e0, ⟨_, _, cs1, rfl, R1, e1, rfl⟩⟩).mono fun e W2 hh => ?_
  obtain ⟨rfl, bel⟩ := ret_bool hh
  exact ⟨_, rfl, _, _, _, [], _, [], hW', trodAll_mk1 (shut_bool Try.underlying4 _), (trodAll_cons_mk (Below.trod laidOut (by kernel_rfl) (of_decide_eq_true (by kernel_rfl)) k0 bel lt0) (trodAll_cons_mk (Below.trod laidOut (by kernel_rfl) (of_decide_eq_true (by kernel_rfl)) k1 bel lt1) trodAll_mk0)), rfl, bel.frame _, fun h => by cases h⟩
theorem over : Rows.topDualRow.holds Try.pinned (OpenSpec.ofChange Rows.topDualSpec) :=
  OpenClaim.holds_of_wide 3 Try.f3 rfl rfl rfl rfl rfl rfl rfl ⟨rfl, rfl, rfl, rfl, rfl⟩ rfl rfl rfl rfl rfl (by kernel_rfl) Try.func3 (by kernel_rfl)
    (of_decide_eq_true (by kernel_rfl)) (by unfold Func.isWrapper; first | (rw [if_pos (by decide +kernel)]; kernel_rfl) | (rw [if_neg (by decide +kernel)]; exact ⟨rfl, rfl⟩))
    (fun os started H enc _ => lifted os started H enc)
end Go.Proofs.Ytfmjodlcjaflfaa.topDual
namespace Go.Proofs.Ytfmjodlcjaflfaa
/-- The law, for every input. -/
theorem topDual_holds : Rows.TopDualSaid := topDual.over
#print axioms topDual_holds
end Go.Proofs.Ytfmjodlcjaflfaa

/- ExprOdd holds for every input: what is no node is not laid flat, nor a variable below 0, nor a degree that is too high. Conditions: none beyond the statement's own. -/
import Derived.Test.YtlamlgfngpmhgaaRows
import Derived.WalkKit
import Derived.ProofKit
import Derived.OpenShut
import Derived.ShutString
import Derived.ChangeOld
import Derived.Below
import Derived.SizedLaws
import Derived.Carry
import Derived.Test.YtlamlgfngpmhgaaMBa
import Derived.Test.YtlamlgfngpmhgaaMBb
import Derived.Test.YtlamlgfngpmhgaaMBc
import Derived.Test.YtlamlgfngpmhgaaMFa
set_option linter.unusedSimpArgs false
set_option linter.unusedVariables false
namespace Go.Proofs.Ytlamlgfngpmhgaa.Sp
open Go.Proofs.Ytlamlgfngpmhgaa.V.B Go.RowKit Go.Proofs.Ytlamlgfngpmhgaa.B Go.Proofs.Ytlamlgfngpmhgaa.V.B.Ar Go.Proofs.Ytlamlgfngpmhgaa.V.B.Tw
set_option linter.unusedVariables false
set_option linter.unusedSimpArgs false
theorem Q_le_64 {n : Nat} (h : n ≤ 6) : Q n ≤ 2 ^ 64 := Q_mono h
theorem Q_dvd {n : Nat} : Q n = 2 ^ 2 ^ n := rfl
theorem two_pow_le_32 {n : Nat} (h : n ≤ 5) : 2 ^ n ≤ 32 := Nat.pow_le_pow_right (n := 2) (by decide) h
theorem w64_pred {l : Nat} (h : l + 1 ≤ 1000) : wrap64 (((l + 1 : Nat) : Int) - 1) = (l : Int) := by rw [w64_id (by omega) (by omega)]; omega
theorem Q_lt_64 {n : Nat} (h : n ≤ 5) : Q n < 2 ^ 64 := Nat.pow_lt_pow_right (by decide) (by have := two_pow_le_32 h; omega)
theorem halves_eq (k : Nat) {l : Nat} (hl : l ≤ 5) (x : Nat) (hx : x < 2 ^ 64) : tower_halves.f k ((l + 1 : Nat) : Int) (x : Int) = some (((x / Q l : Nat) : Int), ((x % Q l : Nat) : Int)) := by
  unfold tower_halves.f
  have h32 := two_pow_le_32 hl
  have hQ := Q_lt_64 hl
  have hm : IntKind.u64.wrap (((2 ^ 2 ^ l : Nat) : Int) - 1) = ((2 ^ 2 ^ l - 1 : Nat) : Int) := by
    have := Nat.two_pow_pos (2 ^ l)
    unfold Q at hQ
    generalize 2 ^ 2 ^ l = q at *
    rw [u64_id (by omega) (by omega)]; omega
  rw [w64_pred (by omega), if_pos (Int.natCast_nonneg _), shl_i64 l (by omega), if_pos (Int.natCast_nonneg _), shr_u64 x (2 ^ l) (by omega), shl_u64 (2 ^ l) (by omega), hm]
  rw [and_u64 x _ hx (by have := Nat.two_pow_pos (2 ^ l); unfold Q at hQ; omega), Nat.and_two_pow_sub_one_eq_mod]
  rfl
theorem join_eq (k : Nat) {l : Nat} (hl : l ≤ 5) (h x : Nat) (hh : h < Q l) (hx : x < Q l) : tower_join.f k ((l + 1 : Nat) : Int) (h : Int) (x : Int) = some ((h * Q l + x : Nat) : Int) := by
  unfold tower_join.f
  have h32 := two_pow_le_32 hl
  have hQ := Q_lt_64 hl
  have h6 : Q (l + 1) ≤ 2 ^ 64 := Q_le_64 (by omega)
  have hhx : h * Q l + Q l ≤ Q (l + 1) := by
    rw [Q_succ]
    have := Nat.mul_le_mul_right (Q l) hh
    rw [Nat.succ_mul] at this; exact this
  have hs : shl .u64 (h : Int) (((2 ^ l : Nat) : Int)) = ((h * Q l : Nat) : Int) := by
    unfold shl
    have h64 : IntKind.u64.bits = 64 := rfl
    rw [h64, Int.toNat_natCast, Nat.min_eq_left (by omega)]
    have hc : ((h : Int) * 2 ^ 2 ^ l) = ((h * Q l : Nat) : Int) := by unfold Q; simp
    rw [hc]
    have : h * Q l < 2 ^ 64 := by omega
    generalize h * Q l = z at *
    exact u64_id (by omega) (by omega)
  rw [w64_pred (by omega), if_pos (by omega), shl_u64 l (by omega), if_pos (Int.natCast_nonneg _), hs, or_u64 _ _ (by omega) (by omega)]
  congr 2
  unfold Q at *
  rw [Nat.mul_comm, ← Nat.two_pow_add_eq_or_of_lt hx]
theorem halves_ev {l : Nat} (hl : l ≤ 5) (x : Nat) (hx : x < 2 ^ 64) : Ev (fun k => tower_halves.f k ((l + 1 : Nat) : Int) (x : Int)) (((x / Q l : Nat) : Int), ((x % Q l : Nat) : Int)) := ⟨0, fun k _ => halves_eq k hl x hx⟩
theorem join_ev {l : Nat} (hl : l ≤ 5) (h x : Nat) (hh : h < Q l) (hx : x < Q l) : Ev (fun k => tower_join.f k ((l + 1 : Nat) : Int) (h : Int) (x : Int)) ((h * Q l + x : Nat) : Int) := ⟨0, fun k _ => join_eq k hl h x hh hx⟩
theorem mulX_ev : ∀ (l : Nat), l ≤ 6 → ∀ (x : Nat), x < Q l → Ev (fun k => tower_mulX.f k (l : Int) (x : Int)) ((val (gen l * of l x) : Nat) : Int) := by
  intro l
  induction l with
  | zero =>
    intro _ x hx
    refine Ev.step (fun k => by rw [tower_mulX.f]) (Ev.pos (by rfl) (Ev.ret' ?_))
    rw [gen_zero, one_mul, val_of 0 x hx]
  | succ l ih =>
    intro hl x hx
    have hx64 : x < 2 ^ 64 := Nat.lt_of_lt_of_le hx (Q_le_64 hl)
    have hd : x / Q l < Q l := Nat.div_lt_of_lt_mul (by rw [← Q_succ]; exact hx)
    have hm : x % Q l < Q l := Nat.mod_lt _ (Q_pos l)
    have hQ := Q_lt_64 (n := l) (by omega)
    refine Ev.step (fun k => by rw [tower_mulX.f]) (Ev.neg (by omega) (Ev.bnd (halves_ev (by omega) x hx64) ?_))
    simp only [w64_pred (show l + 1 ≤ 1000 by omega)]
    refine Ev.bnd (ih (by omega) _ hd) ?_
    have hv := val_lt (gen l * of l (x / Q l))
    simp only [xor_u64 _ _ (Nat.lt_trans hm hQ) (Nat.lt_trans hv hQ)]
    refine Ev.bnd (join_ev (by omega) _ _ (xor_lt hm hv) hd) (Ev.ret' ?_)
    congr 1
    rw [val_succ (gen (l + 1) * of (l + 1) x)]
    congr 1
    · congr 1
      have e : (gen (l + 1) * of (l + 1) x).1 = of l (x % Q l) + gen l * of l (x / Q l) := by
        rw [mul_fst, gen_fst, gen_snd, one_mul, zero_mul, one_mul, add_zero]; rfl
      rw [e, val_add, val_of _ _ hm]
    · have e : (gen (l + 1) * of (l + 1) x).2 = of l (x / Q l) := by
        rw [mul_snd, gen_fst, gen_snd, one_mul, zero_mul, zero_add]; rfl
      rw [e, val_of _ _ hd]
theorem karatsuba {n : Nat} (a1 a0 b1 b0 z : T n) : (a1 + a0) * (b1 + b0) + a1 * b1 + a0 * b0 + z = (a1 * b0 + a0 * b1) + z := by
  have : (a1 + a0) * (b1 + b0) + a1 * b1 + a0 * b0 = a1 * b0 + a0 * b1 := by
    simp only [mul_add, add_mul]
    have : ∀ p q r s : T n, p + q + (r + s) + p + s = q + r := fun p q r s => by
      rw [add_comm p q, add_assoc, add_assoc, add_assoc]
      rw [show p + (r + s + (p + s)) = (p + p) + (r + (s + s)) by simp only [add_assoc, add_left_comm, add_comm]]
      rw [add_self, add_self, zero_add, add_zero]
    rw [show a1 * b1 + a0 * b1 + (a1 * b0 + a0 * b0) = a1 * b1 + a0 * b1 + (a1 * b0 + a0 * b0) from rfl, this, add_comm]
  rw [this]
theorem mul_ev : ∀ (l : Nat), l ≤ 6 → ∀ (x y : Nat), x < Q l → y < Q l → Ev (fun k => tower_mul.f k (l : Int) (x : Int) (y : Int)) ((val (of l x * of l y) : Nat) : Int) := by
  intro l
  have hz : ∀ (l : Nat), l ≤ 6 → ∀ (x y : Nat), x < Q l → y < Q l → (l = 0 ∨ x = 0 ∨ y = 0) → Ev (fun k => tower_mul.j2 k (x : Int) (y : Int)) ((val (of l x * of l y) : Nat) : Int) := by
    intro l hl x y hx hy h
    have hQ := Q_le_64 hl
    refine Ev.step (fun k => by rw [tower_mul.j2]) (Ev.ret' ?_)
    rw [and_u64 x y (by omega) (by omega)]
    have hxy : x &&& y < 2 ^ 64 := Nat.and_lt_two_pow _ (by omega)
    rw [show (1 : Int) = ((1 : Nat) : Int) from rfl, and_u64 _ 1 hxy (by decide)]
    congr 1
    rcases h with rfl | rfl | rfl
    · have h1 : x < 2 := hx
      have h2 : y < 2 := hy
      rcases (by omega : x = 0 ∨ x = 1) with rfl | rfl <;> rcases (by omega : y = 0 ∨ y = 1) with rfl | rfl <;> rfl
    · rw [of_zero, zero_mul, val_zero]; simp
    · rw [of_zero, mul_zero, val_zero]; simp
  induction l with
  | zero =>
    intro hl x y hx hy
    exact Ev.step (fun k => by rw [tower_mul.f]) (Ev.pos (by rfl) (hz 0 hl x y hx hy (Or.inl rfl)))
  | succ l ih =>
    intro hl x y hx hy
    refine Ev.step (fun k => by rw [tower_mul.f]) (Ev.neg (by omega) ?_)
    by_cases hx0 : x = 0
    · exact Ev.pos (by omega) (hz (l + 1) hl x y hx hy (Or.inr (Or.inl hx0)))
    refine Ev.neg (by omega) ?_
    by_cases hy0 : y = 0
    · exact Ev.pos (by omega) (hz (l + 1) hl x y hx hy (Or.inr (Or.inr hy0)))
    refine Ev.neg (by omega) ?_
    have hQ := Q_lt_64 (n := l) (by omega)
    have hx64 : x < 2 ^ 64 := Nat.lt_of_lt_of_le hx (Q_le_64 hl)
    have hy64 : y < 2 ^ 64 := Nat.lt_of_lt_of_le hy (Q_le_64 hl)
    have hxd : x / Q l < Q l := Nat.div_lt_of_lt_mul (by rw [← Q_succ]; exact hx)
    have hxm : x % Q l < Q l := Nat.mod_lt _ (Q_pos l)
    have hyd : y / Q l < Q l := Nat.div_lt_of_lt_mul (by rw [← Q_succ]; exact hy)
    have hym : y % Q l < Q l := Nat.mod_lt _ (Q_pos l)
    have hl5 : l ≤ 5 := by omega
    refine Ev.bnd (halves_ev hl5 x hx64) (Ev.bnd (halves_ev hl5 y hy64) ?_)
    simp only [w64_pred (show l + 1 ≤ 1000 by omega)]
    refine Ev.bnd (ih (by omega) _ _ hxd hyd) (Ev.bnd (ih (by omega) _ _ hxm hym) ?_)
    simp only [xor_u64 _ _ (Nat.lt_trans hxd hQ) (Nat.lt_trans hxm hQ), xor_u64 _ _ (Nat.lt_trans hyd hQ) (Nat.lt_trans hym hQ)]
    refine Ev.bnd (ih (by omega) _ _ (xor_lt hxd hxm) (xor_lt hyd hym)) ?_
    have v1 := val_lt (of l (x / Q l) * of l (y / Q l))
    have v2 := val_lt (of l (x % Q l) * of l (y % Q l))
    have v3 := val_lt (of l (x / Q l ^^^ x % Q l) * of l (y / Q l ^^^ y % Q l))
    refine Ev.bnd (mulX_ev l (by omega) _ v1) ?_
    have v4 := val_lt (gen l * of l (val (of l (x / Q l) * of l (y / Q l))))
    simp only [xor_u64 _ _ (Nat.lt_trans v3 hQ) (Nat.lt_trans v1 hQ), xor_u64 _ _ (Nat.lt_trans (xor_lt v3 v1) hQ) (Nat.lt_trans v2 hQ), xor_u64 _ _ (Nat.lt_trans (xor_lt (xor_lt v3 v1) v2) hQ) (Nat.lt_trans v4 hQ), xor_u64 _ _ (Nat.lt_trans v2 hQ) (Nat.lt_trans v1 hQ)]
    refine Ev.bnd (join_ev (by omega) _ _ (xor_lt (xor_lt (xor_lt v3 v1) v2) v4) (xor_lt v2 v1)) (Ev.ret' ?_)
    congr 1
    rw [val_succ (of (l + 1) x * of (l + 1) y)]
    congr 1
    · congr 1
      rw [mul_fst, of_succ, of_succ, mk_fst, mk_snd, mk_fst, mk_snd, ← karatsuba, val_add, val_add, val_add, of_xor hxd hxm, of_xor hyd hym, of_val]
    · rw [mul_snd, of_succ, of_succ, mk_fst, mk_snd, mk_fst, mk_snd, val_add]
end Go.Proofs.Ytlamlgfngpmhgaa.Sp
namespace Go.Proofs.Ytlamlgfngpmhgaa.Sp
open Go.Proofs.Ytlamlgfngpmhgaa.V.B Go.RowKit Go.Proofs.Ytlamlgfngpmhgaa.B Go.Proofs.Ytlamlgfngpmhgaa.V.B.Ar Go.Proofs.Ytlamlgfngpmhgaa.V.B.Tw
set_option linter.unusedVariables false
set_option linter.unusedSimpArgs false
abbrev E := T 7
/-- The higher and the lower word. -/
def hi (x : E) : Int := ((val x.1 : Nat) : Int)
def lo (x : E) : Int := ((val x.2 : Nat) : Int)
def el (h l : Int) : E := mk (of 6 h.toNat) (of 6 l.toNat)
theorem hi_el {h l : Int} (h0 : 0 ≤ h) (h1 : h < 18446744073709551616) : hi (el h l) = h := by
  unfold hi el; rw [mk_fst, val_of 6 _ (by rw [Q_six]; omega)]; omega
theorem lo_el {h l : Int} (h0 : 0 ≤ l) (h1 : l < 18446744073709551616) : lo (el h l) = l := by
  unfold lo el; rw [mk_snd, val_of 6 _ (by rw [Q_six]; omega)]; omega
theorem hl_inj {x y : E} (h : hi x = hi y) (l : lo x = lo y) : x = y := by
  unfold hi lo at *; exact ext (val_inj (by omega)) (val_inj (by omega))
theorem hi_zero : hi 0 = 0 := by unfold hi; rw [zero_fst, val_zero]; rfl
theorem lo_zero : lo 0 = 0 := by unfold lo; rw [zero_snd, val_zero]; rfl
theorem hi_one : hi 1 = 0 := by unfold hi; rw [one_fst, val_zero]; rfl
theorem lo_one : lo 1 = 1 := by unfold lo; rw [one_snd, val_one]; rfl
theorem hi_bd (x : E) : 0 ≤ hi x ∧ hi x < 18446744073709551616 := by
  unfold hi; have := val_lt x.1; rw [Q_six] at this; omega
theorem lo_bd (x : E) : 0 ≤ lo x ∧ lo x < 18446744073709551616 := by
  unfold lo; have := val_lt x.2; rw [Q_six] at this; omega
theorem val_hl (x : E) : val x = (hi x).toNat * 18446744073709551616 + (lo x).toNat := by
  unfold hi lo; rw [val_succ, Q_six]; simp
theorem eq_zero_iff (x : E) : x = 0 ↔ hi x = 0 ∧ lo x = 0 := ⟨fun h => by rw [h]; exact ⟨hi_zero, lo_zero⟩, fun h => hl_inj (h.1.trans hi_zero.symm) (h.2.trans lo_zero.symm)⟩
theorem xor_hi (x y : E) : Go.bits .xor .u64 (hi x) (hi y) = hi (x + y) := by
  unfold hi; rw [xor_u64 _ _ (val_lt x.1) (val_lt y.1), add_fst, val_add]
theorem xor_lo (x y : E) : Go.bits .xor .u64 (lo x) (lo y) = lo (x + y) := by
  unfold lo; rw [xor_u64 _ _ (val_lt x.2) (val_lt y.2), add_snd, val_add]
/-- Of a level. -/
def InL (l : Nat) (x : E) : Prop := val x < Q l
instance (l : Nat) (x : E) : Decidable (InL l x) := by unfold InL; infer_instance
def OfS (L : Int) (x : E) : Prop := 0 ≤ L ∧ L ≤ 7 ∧ InL L.toNat x
instance (L : Int) (x : E) : Decidable (OfS L x) := by unfold OfS; infer_instance
theorem inL_seven (x : E) : InL 7 x := val_lt x
theorem inL_zero (l : Nat) : InL l 0 := by unfold InL; rw [val_zero]; exact Q_pos l
theorem inL_one (l : Nat) : InL l 1 := by unfold InL; rw [val_one]; exact Nat.lt_of_lt_of_le (by decide : 1 < Q 0) (Q_mono (Nat.zero_le _))
theorem inL_mono {l m : Nat} (h : l ≤ m) {x : E} (hx : InL l x) : InL m x := Nat.lt_of_lt_of_le hx (Q_mono h)
theorem inL_add {l : Nat} {x y : E} (hx : InL l x) (hy : InL l y) : InL l (x + y) := by
  unfold InL at *; rw [val_add]; exact xor_lt hx hy
theorem inL_mul {l : Nat} (hl : l ≤ 7) {x y : E} (hx : InL l x) (hy : InL l y) : InL l (x * y) := by
  unfold InL at *; have := val_mul_lt hl hx hy; rwa [of_val, of_val] at this
theorem inL_six {x : E} : InL 6 x ↔ hi x = 0 := by
  unfold InL; have h := val_hl x; have h1 := hi_bd x; have h2 := lo_bd x
  rw [Q_six, h]; constructor <;> intro g <;> omega
theorem inL_low {l : Nat} (hl : l ≤ 6) {x : E} : InL l x ↔ hi x = 0 ∧ (lo x).toNat < Q l := by
  constructor
  · intro h
    have h6 := inL_six.1 (inL_mono hl h)
    refine ⟨h6, ?_⟩
    unfold InL at h; rw [val_hl, h6] at h; simpa using h
  · rintro ⟨h1, h2⟩
    unfold InL; rw [val_hl, h1]; simpa using h2
/-- The program's element, the document's. -/
@[reducible] def toS (x : E) : S34 := ⟨hi x, lo x⟩
@[reducible] def toR (x : E) : S59 := ⟨hi x, lo x⟩
def WfS (e : S34) : Prop := (0 ≤ e.f0 ∧ e.f0 < 18446744073709551616) ∧ (0 ≤ e.f1 ∧ e.f1 < 18446744073709551616)
theorem of_ev (L : Int) (x : E) : Ev (fun k => octet_Of.f k L (toS x)) (decide (OfS L x)) := by
  unfold octet_Of.f
  by_cases h0 : L < 0
  · refine Ev.pos h0 (Ev.ret' ?_)
    symm; rw [decide_eq_false_iff_not]; rintro ⟨h, _⟩; omega
  refine Ev.neg h0 ?_
  by_cases h7 : L > 7
  · refine Ev.pos h7 (Ev.ret' ?_)
    symm; rw [decide_eq_false_iff_not]; rintro ⟨_, h, _⟩; omega
  refine Ev.neg h7 ?_
  obtain ⟨l, rfl⟩ := Int.eq_ofNat_of_zero_le (show 0 ≤ L by omega)
  have hS : OfS (l : Int) x ↔ InL l x := by
    unfold OfS; rw [Int.toNat_natCast]; exact ⟨fun h => h.2.2, fun h => ⟨by omega, by omega, h⟩⟩
  by_cases c7 : (l : Int) = 7
  · refine Ev.pos c7 (Ev.ret' ?_)
    have : l = 7 := by omega
    subst this
    symm; rw [decide_eq_true_eq, hS]; exact inL_seven x
  refine Ev.neg c7 ?_
  by_cases c6 : (l : Int) = 6
  · refine Ev.pos c6 (Ev.ret' ?_)
    have : l = 6 := by omega
    subst this
    rw [decide_eq_decide, hS]; exact inL_six.symm
  refine Ev.neg c6 ?_
  have hl5 : l ≤ 5 := by omega
  have hl := inL_low (l := l) (by omega) (x := x)
  by_cases c0 : hi x = 0
  · have h32 := two_pow_le_32 hl5
    refine Ev.pos c0 (Ev.pos (Int.natCast_nonneg _) (Ev.pos (by rw [shl_u64 l (by omega)]; exact Int.natCast_nonneg _) (Ev.ret' ?_)))
    show decide (shr .u64 (lo x) _ = 0) = _
    have hlo : lo x = (((lo x).toNat : Nat) : Int) := by have := lo_bd x; omega
    rw [shl_u64 l (by omega), hlo, shr_u64 _ (2 ^ l) (by omega)]
    rw [decide_eq_decide, hS, hl]
    have hq : (lo x).toNat / 2 ^ 2 ^ l = 0 ↔ (lo x).toNat < Q l := by
      rw [Nat.div_eq_zero_iff]; unfold Q
      have := Nat.two_pow_pos (2 ^ l)
      omega
    constructor
    · intro h; exact ⟨c0, hq.1 (by exact_mod_cast h)⟩
    · rintro ⟨_, h⟩; exact_mod_cast hq.2 h
  · refine Ev.neg c0 (Ev.ret' ?_)
    symm; rw [decide_eq_false_iff_not, hS, hl]; exact fun h => c0 h.1
theorem Add_ev (x y : E) : Ev (fun k => tower_Add.f k (toS x) (toS y)) (toS (x + y)) := ⟨0, fun k _ => by
  show some (⟨bits .xor .u64 (hi x) (hi y), bits .xor .u64 (lo x) (lo y)⟩ : S34) = _
  rw [xor_hi, xor_lo]⟩
theorem toS_zero : toS 0 = z34 := by unfold toS; rw [hi_zero, lo_zero]; rfl
theorem Mul_out {L : Int} {x y : E} (h : ¬ (OfS L x ∧ OfS L y)) : Ev (fun k => tower_Mul.f k L (toS x) (toS y)) (toS 0) := by
  rw [toS_zero]
  unfold tower_Mul.f
  refine Ev.bnd (of_ev L x) ?_
  by_cases c : OfS L x
  · rw [decide_eq_true c]
    refine Ev.neg (by decide) (Ev.bnd (of_ev L y) ?_)
    rw [decide_eq_false (fun g => h ⟨c, g⟩)]
    exact Ev.pos rfl (Ev.ret _)
  · rw [decide_eq_false c]
    exact Ev.pos rfl (Ev.ret _)
theorem Mul_ev {l : Nat} (hl : l ≤ 7) {x y : E} (hx : InL l x) (hy : InL l y) : Ev (fun k => tower_Mul.f k (l : Int) (toS x) (toS y)) (toS (x * y)) := by
  unfold tower_Mul.f
  have hS : ∀ z, InL l z → OfS (l : Int) z := fun z hz => ⟨by omega, by omega, by rw [Int.toNat_natCast]; exact hz⟩
  refine Ev.bnd (of_ev (l : Int) x) ?_
  rw [decide_eq_true (hS x hx)]
  refine Ev.neg (by decide) (Ev.bnd (of_ev (l : Int) y) ?_)
  rw [decide_eq_true (hS y hy)]
  refine Ev.neg (by decide) ?_
  by_cases c : l ≤ 6
  · refine Ev.pos (by omega) ?_
    have ex := (inL_low c).1 hx
    have ey := (inL_low c).1 hy
    have e1 : lo x = (((lo x).toNat : Nat) : Int) := by have := lo_bd x; omega
    have e2 : lo y = (((lo y).toNat : Nat) : Int) := by have := lo_bd y; omega
    have ev := mul_ev l c (lo x).toNat (lo y).toNat ex.2 ey.2
    rw [← e1, ← e2] at ev
    refine Ev.bnd ev (Ev.ret' ?_)
    unfold toS
    have hz := (inL_low c).1 (inL_mul hl hx hy)
    have e3 : lo (x * y) = (((lo (x * y)).toNat : Nat) : Int) := by have := lo_bd (x * y); omega
    rw [hz.1, e3]
    congr 2
    have vx : val x = (lo x).toNat := by rw [val_hl, ex.1]; simp
    have vy : val y = (lo y).toNat := by rw [val_hl, ey.1]; simp
    have vz : val (x * y) = (lo (x * y)).toNat := by rw [val_hl, hz.1]; simp
    rw [← vz, ← vx, ← vy, ← val_mul_level hl hx hy, of_val, of_val]
  · have : l = 7 := by omega
    subst this
    refine Ev.neg (by decide) ?_
    have v1 := val_lt x.1
    have v2 := val_lt x.2
    have v3 := val_lt y.1
    have v4 := val_lt y.2
    have m1 := mul_ev 6 (by decide) _ _ v1 v3
    have m2 := mul_ev 6 (by decide) _ _ v2 v4
    have m3 := mul_ev 6 (by decide) _ _ (xor_lt v1 v2) (xor_lt v3 v4)
    rw [of_val, of_val] at m1 m2
    rw [← val_add, ← val_add, of_val, of_val] at m3
    have m4 := mulX_ev 6 (by decide) _ (val_lt (x.1 * y.1))
    rw [of_val] at m4
    refine Ev.bnd m1 (Ev.bnd m2 ?_)
    have e1 : Go.bits .xor .u64 (hi x) (lo x) = ((val (x.1 + x.2) : Nat) : Int) := by unfold hi lo; rw [xor_u64 _ _ v1 v2, val_add]
    have e2 : Go.bits .xor .u64 (hi y) (lo y) = ((val (y.1 + y.2) : Nat) : Int) := by unfold hi lo; rw [xor_u64 _ _ v3 v4, val_add]
    simp only [toS, e1, e2]
    refine Ev.bnd m3 (Ev.bnd m4 (Ev.ret' ?_))
    rw [xor_u64 _ _ (val_lt _) (val_lt _), ← val_add, xor_u64 _ _ (val_lt _) (val_lt _), ← val_add, xor_u64 _ _ (val_lt _) (val_lt _), ← val_add, xor_u64 _ _ (val_lt _) (val_lt _), ← val_add, karatsuba]
    rfl
theorem toS_f0 (x : E) : (toS x).f0 = hi x := rfl
theorem toS_f1 (x : E) : (toS x).f1 = lo x := rfl
theorem toR_f0 (x : E) : (toR x).f0 = hi x := rfl
theorem toR_f1 (x : E) : (toR x).f1 = lo x := rfl
theorem toR_zero : toR 0 = z59 := by unfold toR; rw [hi_zero, lo_zero]; rfl
theorem toS_el (e : S34) (h : WfS e) : toS (el e.f0 e.f1) = e := by unfold toS; rw [hi_el h.1.1 h.1.2, lo_el h.2.1 h.2.2]
theorem toS_inj {x y : E} (h : toS x = toS y) : x = y := by
  unfold toS at h; injection h with h1 h2; exact hl_inj h1 h2
theorem wf_of {e : S34} (h : (Lit.int .u64 e.f0).wf = true ∧ (Lit.int .u64 e.f1).wf = true) : WfS e := ⟨wf_u64 h.1, wf_u64 h.2⟩
/-- A list that came in is a list of elements. -/
theorem list_of (l : List S34) (h : ∀ e ∈ l, ((Lit.int .u64 e.f0).wf = true) ∧ ((Lit.int .u64 e.f1).wf = true)) : ∃ X : List E, l = X.map toS := by
  refine ⟨l.map fun e => el e.f0 e.f1, ?_⟩
  rw [List.map_map]
  conv => lhs; rw [← List.map_id l]
  apply List.map_congr_left
  intro e he
  exact (toS_el e (wf_of (h e he))).symm
theorem elem_of (e : S34) (h : ((Lit.int .u64 e.f0).wf = true) ∧ ((Lit.int .u64 e.f1).wf = true)) : ∃ x : E, e = toS x := ⟨_, (toS_el e (wf_of h)).symm⟩
theorem rdS (X : List E) (i : Nat) : rd34 (X.map toS) (i : Int) = toS (X.getD i 0) := by
  unfold rd34; rw [Int.toNat_natCast, ← toS_zero, List.getD_eq_getElem?_getD, List.getD_eq_getElem?_getD, List.getElem?_map]
  cases X[i]? <;> rfl
theorem rdR (X : List E) (i : Nat) : rd59 (X.map toR) (i : Int) = toR (X.getD i 0) := by
  unfold rd59; rw [Int.toNat_natCast, ← toR_zero, List.getD_eq_getElem?_getD, List.getD_eq_getElem?_getD, List.getElem?_map]
  cases X[i]? <;> rfl
end Go.Proofs.Ytlamlgfngpmhgaa.Sp
namespace Go.Proofs.Ytlamlgfngpmhgaa.Sp
open Go.Proofs.Ytlamlgfngpmhgaa.V.B Go.RowKit Go.Proofs.Ytlamlgfngpmhgaa.B Go.Proofs.Ytlamlgfngpmhgaa.V.B.Ar Go.Proofs.Ytlamlgfngpmhgaa.V.B.Tw
set_option linter.unusedVariables false
set_option linter.unusedSimpArgs false
/-- Is there such a level? -/
def LvS (L : Int) : Prop := 0 ≤ L ∧ L ≤ 7
instance (L : Int) : Decidable (LvS L) := by unfold LvS; infer_instance
theorem wide_out {L : Int} (h : ¬ LvS L) : Ev (fun k => octet_Wide.f k L) 0 := by
  unfold octet_Wide.f
  by_cases h0 : L < 0
  · exact Ev.pos h0 (Ev.ret _)
  · exact Ev.neg h0 (Ev.pos (by unfold LvS at h; omega) (Ev.ret _))
theorem wide_in {L : Int} (h : LvS L) : ∃ v, v ≠ 0 ∧ Ev (fun k => octet_Wide.f k L) v := by
  obtain ⟨h0, h7⟩ := h
  obtain ⟨l, rfl⟩ := Int.eq_ofNat_of_zero_le h0
  have hstep : ∀ {g : Nat → Option Int} {v : Int}, Ev g v → Ev (fun k => if (l : Int) < 0 then some 0 else if (l : Int) > 7 then some 0 else g k) v := fun hv => Ev.neg (by omega) (Ev.neg (by omega) hv)
  by_cases c : (l : Int) ≤ 3
  · exact ⟨1, by decide, hstep (Ev.pos c (Ev.ret _))⟩
  · have e : wrap64 ((l : Int) - 3) = ((l - 3 : Nat) : Int) := by rw [w64_id (by omega) (by omega)]; omega
    refine ⟨((2 ^ (l - 3) : Nat) : Int), by have := Nat.two_pow_pos (l - 3); omega, hstep (Ev.neg c ?_)⟩
    rw [e]
    exact Ev.pos (Int.natCast_nonneg _) (Ev.ret' (shl_i64 (l - 3) (by omega)))
theorem rdL (l : Nat) (h : l ≤ 7) : rdI ([1, 2, 4, 8, 16, 32, 64, 128] : List Int) (l : Int) = ((2 ^ l : Nat) : Int) := by
  have : ∀ m, m ≤ 7 → rdI ([1, 2, 4, 8, 16, 32, 64, 128] : List Int) ((m : Nat) : Int) = ((2 ^ m : Nat) : Int) := by decide
  exact this l h
theorem and_one_u64 (a n : Nat) (ha : a < 2 ^ 64) (hn : n ≤ 64) : Go.bits .and .u64 (shr .u64 (a : Int) (n : Int)) 1 = if a.testBit n then 1 else 0 := by
  rw [shr_u64 a n hn]
  have hd : a / 2 ^ n < 2 ^ 64 := Nat.lt_of_le_of_lt (Nat.div_le_self _ _) ha
  rw [show (1 : Int) = ((1 : Nat) : Int) from rfl, and_u64 _ 1 hd (by decide), Nat.and_one_is_mod, Nat.testBit_eq_decide_div_mod_eq]
  by_cases c : a / 2 ^ n % 2 = 1
  · rw [c]; simp
  · rw [show a / 2 ^ n % 2 = 0 by omega]; simp
theorem refbit_eq (k : Nat) (x : E) (n : Nat) (hn : n < 128) : steepleref01_bit.f k (toR x) (n : Int) = some (if (val x).testBit n then 1 else 0) := by
  have hx1 := val_lt x.1
  have hx2 := val_lt x.2
  have hQ : Q 6 = 2 ^ 64 := rfl
  rw [hQ] at hx1 hx2
  have hv : val x = 2 ^ 64 * val x.1 + val x.2 := by rw [val_succ, hQ, Nat.mul_comm]
  unfold steepleref01_bit.f
  rw [hv, Nat.testBit_two_pow_mul_add _ hx2]
  unfold toR hi lo
  by_cases c : n < 64
  · have e : IntKind.u64.wrap (n : Int) = (n : Int) := u64_id (by omega) (by omega)
    rw [if_neg (by omega), e, if_pos (Int.natCast_nonneg _), and_one_u64 _ _ hx2 (by omega), if_pos c]
  · have e : IntKind.u64.wrap (wrap64 ((n : Int) - 64)) = ((n - 64 : Nat) : Int) := by
      rw [w64_id (by omega) (by omega), u64_id (by omega) (by omega)]; omega
    rw [if_pos (by omega), e, if_pos (Int.natCast_nonneg _), and_one_u64 _ _ hx1 (by omega), if_neg c]
theorem refbit_ev (x : E) (n : Nat) (hn : n < 128) : Ev (fun k => steepleref01_bit.f k (toR x) (n : Int)) (if (val x).testBit n then 1 else 0) := ⟨0, fun k _ => refbit_eq k x n hn⟩
theorem refOf_l0 (x : E) : ∀ (d n : Nat), n + d = 128 → Ev (fun k => steepleref01_Of.l5 k (n : Int) (hi x) (lo x)) (decide (val x < 2 ^ n)) := by
  intro d
  induction d with
  | zero =>
    intro n hn
    have : n = 128 := by omega
    subst this
    have := val_lt x; rw [Q_seven] at this
    rw [decide_eq_true this]
    exact Ev.step (fun k => by rw [steepleref01_Of.l5]) (Ev.neg (by decide) (Ev.ret _))
  | succ d ih =>
    intro n hn
    have hn' : n < 128 := by omega
    refine Ev.step (fun k => by rw [steepleref01_Of.l5]) ?_
    refine (Ev.pos (by omega) (Ev.bnd (refbit_ev x n hn') ?_))
    simp only [w64_succ hn' (show 128 ≤ 4611686018427387904 by decide)]
    cases c : (val x).testBit n with
    | true =>
      refine Ev.pos (by simp) (Ev.ret' ?_)
      symm; rw [decide_eq_false_iff_not]
      intro h; rw [Nat.testBit_lt_two_pow h] at c; cases c
    | false =>
      refine Ev.neg (by simp) ?_
      have hih := ih (n + 1) (by omega)
      have e : decide (val x < 2 ^ (n + 1)) = decide (val x < 2 ^ n) := by
        rw [decide_eq_decide]
        constructor
        · intro h
          apply Nat.lt_pow_two_of_testBit
          intro i hi
          by_cases e : i = n
          · rw [e]; exact c
          · exact Nat.testBit_lt_two_pow (Nat.lt_of_lt_of_le h (Nat.pow_le_pow_right (by decide) (by omega)))
        · intro h; exact Nat.lt_of_lt_of_le h (Nat.pow_le_pow_right (by decide) (by omega))
      rw [← e]; exact hih
theorem refOf_ev (L : Int) (x : E) : Ev (fun k => steepleref01_Of.f k L (toR x)) (decide (OfS L x)) := by
  unfold steepleref01_Of.f
  by_cases h0 : L < 0
  · refine Ev.pos h0 (Ev.ret' ?_)
    symm; rw [decide_eq_false_iff_not]; rintro ⟨h, _⟩; omega
  refine Ev.neg h0 ?_
  by_cases h7 : L > 7
  · refine Ev.pos h7 (Ev.ret' ?_)
    symm; rw [decide_eq_false_iff_not]; rintro ⟨_, h, _⟩; omega
  refine Ev.neg h7 ?_
  obtain ⟨l, rfl⟩ := Int.eq_ofNat_of_zero_le (show 0 ≤ L by omega)
  refine Ev.pos (Int.natCast_nonneg _) (Ev.pos (by simp; omega) ?_)
  rw [rdL l (by omega)]
  have hp : 2 ^ l ≤ 128 := Nat.pow_le_pow_right (n := 2) (by decide) (show l ≤ 7 by omega)
  have := refOf_l0 x (128 - 2 ^ l) (2 ^ l) (by omega)
  have e : decide (val x < 2 ^ 2 ^ l) = decide (OfS (l : Int) x) := by
    rw [decide_eq_decide]; unfold OfS InL Q; rw [Int.toNat_natCast]
    exact ⟨fun h => ⟨by omega, by omega, h⟩, fun h => h.2.2⟩
  rw [← e]; exact this
/-- All of a level. -/
def AllS (L : Int) (X : List E) : Prop := ∀ x ∈ X, OfS L x
instance (L : Int) (X : List E) : Decidable (AllS L X) := by unfold AllS; infer_instance
theorem allS_drop {L : Int} {X : List E} {i : Nat} (h : i < X.length) : AllS L (X.drop i) ↔ OfS L (X.getD i 0) ∧ AllS L (X.drop (i + 1)) := by
  rw [List.drop_eq_getElem_cons h]
  have : X.getD i 0 = X[i] := by rw [List.getD_eq_getElem?_getD, List.getElem?_eq_getElem h]; rfl
  rw [this]
  exact List.forall_mem_cons
theorem map_take_succ {α β : Type} (f : α → β) (X : List α) (d : α) (i : Nat) (h : i < X.length) : (X.take (i + 1)).map f = (X.take i).map f ++ [f (X.getD i d)] := by
  rw [List.take_succ_eq_append_getElem h, List.map_append]
  have : X.getD i d = X[i] := by rw [List.getD_eq_getElem?_getD, List.getElem?_eq_getElem h]; rfl
  rw [this]; rfl
/-- The same element? as the program asks. -/
theorem eq_pair (x y : E) : (hi x == hi y && (lo x == lo y)) = decide (x = y) := by
  rw [Bool.eq_iff_iff, Bool.and_eq_true, beq_iff_eq, beq_iff_eq, decide_eq_true_eq]
  exact ⟨fun h => hl_inj h.1 h.2, fun h => by rw [h]; exact ⟨rfl, rfl⟩⟩
theorem eq_none (x : E) : (hi x == 0 && (lo x == 0)) = decide (x = 0) := by
  rw [← eq_pair, hi_zero, lo_zero]
end Go.Proofs.Ytlamlgfngpmhgaa.Sp
namespace Go.Proofs.Ytlamlgfngpmhgaa.Sp
open Go.Proofs.Ytlamlgfngpmhgaa.V.B Go.RowKit Go.Proofs.Ytlamlgfngpmhgaa.B Go.Proofs.Ytlamlgfngpmhgaa.V.B.Ar Go.Proofs.Ytlamlgfngpmhgaa.V.B.Tw
set_option linter.unusedVariables false
set_option linter.unusedSimpArgs false
/-- A step. -/
structure St where
  k : Int
  a : Int
  b : Int
  v : E
def st0 : St := ⟨0, 0, 0, 0⟩
@[reducible] def toP (o : St) : S36 := ⟨o.k, o.a, o.b, toS o.v⟩
@[reducible] def toD (o : St) : S61 := ⟨o.k, o.a, o.b, toR o.v⟩
theorem toP_f0 (o : St) : (toP o).f0 = o.k := rfl
theorem toP_f1 (o : St) : (toP o).f1 = o.a := rfl
theorem toP_f2 (o : St) : (toP o).f2 = o.b := rfl
theorem toP_f3 (o : St) : (toP o).f3 = toS o.v := rfl
theorem toD_f0 (o : St) : (toD o).f0 = o.k := rfl
theorem toD_f1 (o : St) : (toD o).f1 = o.a := rfl
theorem toD_f2 (o : St) : (toD o).f2 = o.b := rfl
theorem toD_f3 (o : St) : (toD o).f3 = toR o.v := rfl
theorem rdP (X : List St) (i : Nat) : rd36 (X.map toP) (i : Int) = toP (X.getD i st0) := by
  unfold rd36
  have : toP st0 = z36 := by unfold toP st0; simp only [toS_zero]; rfl
  rw [Int.toNat_natCast, ← this, List.getD_eq_getElem?_getD, List.getD_eq_getElem?_getD, List.getElem?_map]
  cases X[i]? <;> rfl
theorem rdD (X : List St) (i : Nat) : rd61 (X.map toD) (i : Int) = toD (X.getD i st0) := by
  unfold rd61
  have : toD st0 = z61 := by unfold toD st0; simp only [toR_zero]; rfl
  rw [Int.toNat_natCast, ← this, List.getD_eq_getElem?_getD, List.getD_eq_getElem?_getD, List.getElem?_map]
  cases X[i]? <;> rfl
theorem steps_of (l : List S36) (h : ∀ e ∈ l, ((Lit.int .i64 e.f0).wf = true) ∧ ((Lit.int .i64 e.f1).wf = true) ∧ ((Lit.int .i64 e.f2).wf = true) ∧ ((Lit.int .u64 e.f3.f0).wf = true) ∧ ((Lit.int .u64 e.f3.f1).wf = true)) : ∃ X : List St, l = X.map toP := by
  refine ⟨l.map fun e => ⟨e.f0, e.f1, e.f2, el e.f3.f0 e.f3.f1⟩, ?_⟩
  rw [List.map_map]
  conv => lhs; rw [← List.map_id l]
  apply List.map_congr_left
  intro e he
  have := (toS_el e.f3 (wf_of (h e he).2.2.2)).symm
  show e = toP ⟨e.f0, e.f1, e.f2, el e.f3.f0 e.f3.f1⟩
  unfold toP
  rw [← this]
/-- A list that grows by what a step says of what is there. -/
def grow {β : Type} (f : St → List β → β) : List St → List β → List β
  | [], l => l
  | o :: t, l => grow f t (l ++ [f o l])
def G {β : Type} (f : St → List β → β) (X : List St) : List β := grow f X []
theorem grow_snoc {β : Type} (f : St → List β → β) : ∀ (X : List St) (o : St) (l : List β), grow f (X ++ [o]) l = grow f X l ++ [f o (grow f X l)]
  | [], o, l => rfl
  | p :: t, o, l => grow_snoc f t o (l ++ [f p l])
theorem take_snoc {X : List St} {i : Nat} (h : i < X.length) : X.take (i + 1) = X.take i ++ [X.getD i st0] := by
  rw [List.take_succ_eq_append_getElem h]
  have : X.getD i st0 = X[i] := by rw [List.getD_eq_getElem?_getD, List.getElem?_eq_getElem h]; rfl
  rw [this]
theorem G_succ {β : Type} (f : St → List β → β) {X : List St} {i : Nat} (h : i < X.length) : G f (X.take (i + 1)) = G f (X.take i) ++ [f (X.getD i st0) (G f (X.take i))] := by
  rw [take_snoc h]; exact grow_snoc f _ _ _
theorem G_length {β : Type} (f : St → List β → β) {X : List St} : ∀ {i : Nat}, i ≤ X.length → (G f (X.take i)).length = i
  | 0, _ => rfl
  | i + 1, h => by rw [G_succ f h, List.length_append, G_length f (Nat.le_of_succ_le h)]; rfl
theorem G_last {β : Type} (f : St → List β → β) (d : β) {X : List St} {i : Nat} (h : i < X.length) : (G f (X.take (i + 1))).getD i d = f (X.getD i st0) (G f (X.take i)) := by
  rw [G_succ f h, List.getD_eq_getElem?_getD, List.getElem?_append_right (by rw [G_length f (Nat.le_of_lt h)]; exact Nat.le_refl _), G_length f (Nat.le_of_lt h), Nat.sub_self]; rfl
theorem G_mem {β : Type} (f : St → List β → β) (P : β → Prop) {X : List St} {n : Nat} (hn : n ≤ X.length) (h : ∀ i, i < n → (∀ y ∈ G f (X.take i), P y) → P (f (X.getD i st0) (G f (X.take i)))) : ∀ i, i ≤ n → ∀ y ∈ G f (X.take i), P y := by
  intro i
  induction i with
  | zero => intro _ y hy; cases hy
  | succ i ih =>
    intro hi y hy
    rw [G_succ f (by omega)] at hy
    rcases List.mem_append.1 hy with h1 | h1
    · exact ih (by omega) y h1
    · rw [List.mem_singleton.1 h1]; exact h i (by omega) (ih (by omega))
/-- Are both of a step's ahead? -/
def AheadS (o : St) (i : Int) : Prop := 0 ≤ o.a ∧ o.a < i ∧ 0 ≤ o.b ∧ o.b < i
instance (o : St) (i : Int) : Decidable (AheadS o i) := by unfold AheadS; infer_instance
def mx (x y : Int) : Int := if y > x then y else x
def degS (o : St) (ds : List Int) : Int := if o.k = 2 then 1 else if o.k = 3 then mx (rdI ds o.a) (rdI ds o.b) else if o.k = 4 then rdI ds o.a + rdI ds o.b else 0
def FormS (o : St) (i : Int) : Prop := (o.k = 1 ∧ o.a = 0 ∧ o.b = 0) ∨ (o.k = 2 ∧ o.b = 0 ∧ o.v = 0) ∨ ((o.k = 3 ∨ o.k = 4) ∧ o.v = 0 ∧ AheadS o i)
instance (o : St) (i : Int) : Decidable (FormS o i) := by unfold FormS; infer_instance
/-- What is wrong with a step, but for its degree. -/
def err0S (L vars : Int) (o : St) (i : Int) : Int := if FormS o i then (if o.k = 1 ∧ ¬ OfS L o.v then 5 else if o.k = 2 ∧ (o.a < 0 ∨ o.a ≥ vars) then 4 else 0) else 3
def errS (L vars : Int) (o : St) (ds : List Int) : Int := if err0S L vars o (ds.length : Int) = 0 then (if degS o ds > 8 then 7 else 0) else err0S L vars o (ds.length : Int)
def chkS (L vars : Int) : List St → List Int → List Int × Int
  | [], ds => (ds, 0)
  | o :: t, ds => if errS L vars o ds = 0 then chkS L vars t (ds ++ [degS o ds]) else ([], errS L vars o ds)
def checkS (L vars : Int) (X : List St) : List Int × Int := if ¬ LvS L ∨ vars < 0 then ([], 1) else if X.length = 0 then ([], 3) else if X.length > 200 then ([], 2) else chkS L vars X []
def Small (ds : List Int) : Prop := ∀ d ∈ ds, 0 ≤ d ∧ d ≤ 8
theorem rd_small {ds : List Int} (h : Small ds) (i : Int) : 0 ≤ rdI ds i ∧ rdI ds i ≤ 8 := by
  unfold rdI; rw [List.getD_eq_getElem?_getD]
  cases e : ds[i.toNat]? with
  | none => exact ⟨by decide, by decide⟩
  | some d => exact h d (List.mem_of_getElem? e)
theorem degS_bd {ds : List Int} (h : Small ds) (o : St) : 0 ≤ degS o ds ∧ degS o ds ≤ 16 := by
  have h1 := rd_small h o.a
  have h2 := rd_small h o.b
  unfold degS mx
  split
  · omega
  split
  · split <;> omega
  split <;> omega
theorem ahead_eq (k : Nat) (o : St) (i : Int) : expr_ahead.f k (toP o) i = some (decide (AheadS o i)) := by
  show (if o.a ≥ 0 then (if o.a < i then (if o.b ≥ 0 then some (decide (o.b < i)) else some false) else some false) else some false) = _
  unfold AheadS
  by_cases h1 : o.a ≥ 0 <;> by_cases h2 : o.a < i <;> by_cases h3 : o.b ≥ 0 <;> by_cases h4 : o.b < i <;> simp [h1, h2, h3, h4] <;> omega
theorem ahead_ev (o : St) (i : Int) : Ev (fun k => expr_ahead.f k (toP o) i) (decide (AheadS o i)) := ⟨0, fun k _ => ahead_eq k o i⟩
/-- What step tells. -/
def stepS (L vars : Int) (o : St) (ds : List Int) : Int × Int := if err0S L vars o (ds.length : Int) = 0 then (degS o ds, 0) else (0, err0S L vars o (ds.length : Int))
theorem err0_form {L vars : Int} {o : St} {i : Int} (h : FormS o i) : err0S L vars o i = if o.k = 1 ∧ ¬ OfS L o.v then 5 else if o.k = 2 ∧ (o.a < 0 ∨ o.a ≥ vars) then 4 else 0 := if_pos h
theorem stepS_form {L vars : Int} {o : St} {ds : List Int} (h : ¬ FormS o (ds.length : Int)) : stepS L vars o ds = (0, 3) := by
  unfold stepS err0S; rw [if_neg h]; rfl
theorem step_j12 (L vars : Int) (o : St) (ds : List Int) (hs : Small ds) (h1 : o.k ≠ 1) (h2 : ¬ (o.k = 2 ∧ o.b = 0 ∧ o.v = 0)) (h3 : ¬ (o.k = 3 ∧ o.v = 0 ∧ AheadS o (ds.length : Int))) :
    Ev (fun q => expr_step.j12 q ds o.k o.a o.b (hi o.v) (lo o.v) 0 0) (stepS L vars o ds) := by
  have bad : ¬ (o.k = 4 ∧ o.v = 0 ∧ AheadS o (ds.length : Int)) → Ev (fun q => expr_step.j14 q) (stepS L vars o ds) := fun h4 => by
    refine Ev.step (fun q => by rw [expr_step.j14]) (Ev.ret' ?_)
    rw [stepS_form]
    rintro (h | h | ⟨h | h, h'⟩)
    · exact h1 h.1
    · exact h2 h
    · exact h3 ⟨h, h'⟩
    · exact h4 ⟨h, h'⟩
  refine Ev.step (fun q => by rw [expr_step.j12]) ?_
  by_cases k4 : o.k = 4
  · refine Ev.pos k4 ?_
    by_cases hv : o.v = 0
    · refine Ev.pos ((eq_zero_iff _).1 hv) (Ev.bnd (ahead_ev o _) ?_)
      by_cases hA : AheadS o (ds.length : Int)
      · have hA' := hA
        unfold AheadS at hA'
        refine Ev.pos (decide_eq_true hA) (Ev.pos hA'.1 (Ev.pos hA'.2.1 (Ev.pos hA'.2.2.1 (Ev.pos hA'.2.2.2 (Ev.ret' ?_)))))
        have r1 := rd_small hs o.a
        have r2 := rd_small hs o.b
        have he := err0_form (L := L) (vars := vars) (show FormS o (ds.length : Int) from Or.inr (Or.inr ⟨Or.inr k4, hv, hA⟩))
        rw [if_neg (show ¬ (o.k = 1 ∧ ¬ OfS L o.v) from fun h => h1 h.1), if_neg (show ¬ (o.k = 2 ∧ (o.a < 0 ∨ o.a ≥ vars)) from fun h => by omega)] at he
        unfold stepS degS
        rw [if_pos he, if_neg (by omega), if_neg (by omega), if_pos k4, w64_id (by omega) (by omega)]
      · exact Ev.neg (by simpa using hA) (bad fun h => hA h.2.2)
    · exact Ev.neg (fun h => hv ((eq_zero_iff _).2 h)) (bad fun h => hv h.2.1)
  · exact Ev.neg k4 (bad fun h => k4 h.1)
theorem step_j10 (L vars : Int) (o : St) (ds : List Int) (hs : Small ds) (h1 : o.k ≠ 1) (h2 : ¬ (o.k = 2 ∧ o.b = 0 ∧ o.v = 0)) :
    Ev (fun q => expr_step.j10 q ds o.k o.a o.b (hi o.v) (lo o.v) 0 0) (stepS L vars o ds) := by
  refine Ev.step (fun q => by rw [expr_step.j10]) ?_
  by_cases k3 : o.k = 3
  · refine Ev.pos k3 ?_
    by_cases hv : o.v = 0
    · refine Ev.pos ((eq_zero_iff _).1 hv) (Ev.bnd (ahead_ev o _) ?_)
      by_cases hA : AheadS o (ds.length : Int)
      · have hA' := hA
        unfold AheadS at hA'
        refine Ev.pos (decide_eq_true hA) (Ev.pos hA'.1 (Ev.pos hA'.2.1 (Ev.pos hA'.2.2.1 (Ev.pos hA'.2.2.2 (Ev.ret' ?_)))))
        have he := err0_form (L := L) (vars := vars) (show FormS o (ds.length : Int) from Or.inr (Or.inr ⟨Or.inl k3, hv, hA⟩))
        rw [if_neg (show ¬ (o.k = 1 ∧ ¬ OfS L o.v) from fun h => h1 h.1), if_neg (show ¬ (o.k = 2 ∧ (o.a < 0 ∨ o.a ≥ vars)) from fun h => by omega)] at he
        unfold stepS degS mx
        rw [if_pos he, if_neg (show ¬ o.k = 2 by omega), if_pos k3]
      · exact Ev.neg (by simpa using hA) (step_j12 L vars o ds hs h1 h2 fun h => hA h.2.2)
    · exact Ev.neg (fun h => hv ((eq_zero_iff _).2 h)) (step_j12 L vars o ds hs h1 h2 fun h => hv h.2.1)
  · exact Ev.neg k3 (step_j12 L vars o ds hs h1 h2 fun h => k3 h.1)
theorem step_j6 (L vars : Int) (o : St) (ds : List Int) (hs : Small ds) (h1 : ¬ (o.k = 1 ∧ o.a = 0 ∧ o.b = 0)) :
    Ev (fun q => expr_step.j6 q vars ds o.k o.a o.b (hi o.v) (lo o.v) 0 0) (stepS L vars o ds) := by
  refine Ev.step (fun q => by rw [expr_step.j6]) ?_
  have next : ¬ (o.k = 2 ∧ o.b = 0 ∧ o.v = 0) → Ev (fun q => expr_step.j10 q ds o.k o.a o.b (hi o.v) (lo o.v) 0 0) (stepS L vars o ds) := fun h2 => by
    by_cases k1 : o.k = 1
    · refine Ev.step (fun q => by rw [expr_step.j10]) (Ev.neg (by omega) (Ev.step (fun q => by rw [expr_step.j12]) (Ev.neg (by omega) (Ev.step (fun q => by rw [expr_step.j14]) (Ev.ret' ?_)))))
      rw [stepS_form]
      rintro (h | h | ⟨h, _⟩)
      · exact h1 h
      · exact h2 h
      · omega
    · exact step_j10 L vars o ds hs k1 h2
  by_cases k2 : o.k = 2
  · refine Ev.pos k2 ?_
    by_cases hb : o.b = 0
    · refine Ev.pos hb ?_
      by_cases hv : o.v = 0
      · refine Ev.pos ((eq_zero_iff _).1 hv) ?_
        have hf : FormS o (ds.length : Int) := Or.inr (Or.inl ⟨k2, hb, hv⟩)
        have he := err0_form (L := L) (vars := vars) hf
        rw [if_neg (show ¬ (o.k = 1 ∧ ¬ OfS L o.v) from fun h => by omega)] at he
        have j8 : (o.a < 0 ∨ o.a ≥ vars) → Ev (fun q => expr_step.j8 q) (stepS L vars o ds) := fun h => by
          refine Ev.step (fun q => by rw [expr_step.j8]) (Ev.ret' ?_)
          rw [if_pos ⟨k2, h⟩] at he
          unfold stepS; rw [he]; rfl
        by_cases ha : o.a < 0
        · exact Ev.pos ha (j8 (Or.inl ha))
        · refine Ev.neg ha ?_
          by_cases hb : o.a ≥ vars
          · exact Ev.pos hb (j8 (Or.inr hb))
          · refine Ev.neg hb (Ev.ret' ?_)
            rw [if_neg (by rintro ⟨_, h | h⟩ <;> omega)] at he
            unfold stepS degS; rw [he, if_pos rfl, if_pos k2]
      · exact Ev.neg (fun h => hv ((eq_zero_iff _).2 h)) (next fun h => hv h.2.2)
    · exact Ev.neg hb (next fun h => hb h.2.1)
  · exact Ev.neg k2 (next fun h => k2 h.1)
theorem step_ev (L vars : Int) (o : St) (ds : List Int) (hs : Small ds) : Ev (fun q => expr_step.f q L vars (toP o) ds) (stepS L vars o ds) := by
  unfold expr_step.f
  simp only [toP_f0, toP_f1, toP_f2, toP_f3]
  by_cases k1 : o.k = 1
  · refine Ev.pos k1 ?_
    by_cases ha : o.a = 0
    · refine Ev.pos ha ?_
      by_cases hb : o.b = 0
      · refine Ev.pos hb (Ev.bnd (of_ev L o.v) ?_)
        have hf : FormS o (ds.length : Int) := Or.inl ⟨k1, ha, hb⟩
        have he := err0_form (L := L) (vars := vars) hf
        rw [show (if o.k = 2 ∧ (o.a < 0 ∨ o.a ≥ vars) then (4 : Int) else 0) = 0 from if_neg (by rintro ⟨h, _⟩; omega)] at he
        by_cases hv : OfS L o.v
        · refine Ev.neg (by simpa using hv) (Ev.ret' ?_)
          rw [if_neg (fun h => h.2 hv)] at he
          unfold stepS degS; rw [he, if_pos rfl, if_neg (by omega), if_neg (by omega), if_neg (by omega)]
        · refine Ev.pos (by simpa using hv) (Ev.ret' ?_)
          rw [if_pos ⟨k1, hv⟩] at he
          unfold stepS; rw [he]; rfl
      · exact Ev.neg hb (step_j6 L vars o ds hs fun h => hb h.2.2)
    · exact Ev.neg ha (step_j6 L vars o ds hs fun h => ha h.2.1)
  · exact Ev.neg k1 (step_j6 L vars o ds hs fun h => k1 h.1)
theorem drop_cons {X : List St} {i : Nat} (h : i < X.length) : X.drop i = X.getD i st0 :: X.drop (i + 1) := by
  rw [List.drop_eq_getElem_cons h]
  have : X.getD i st0 = X[i] := by rw [List.getD_eq_getElem?_getD, List.getElem?_eq_getElem h]; rfl
  rw [this]
theorem small_snoc {ds : List Int} {d : Int} (h : Small ds) (h0 : 0 ≤ d) (h8 : d ≤ 8) : Small (ds ++ [d]) := by
  intro x hx
  rcases List.mem_append.1 hx with h1 | h1
  · exact h x h1
  · rw [List.mem_singleton.1 h1]; exact ⟨h0, h8⟩
theorem degrees_j14 (L vars : Int) (X : List St) (ds : List Int) (d e : Int) (i : Nat) (hX : X.length ≤ 1000000) (hl : ds.length ≤ 1000000) (hi' : i < X.length) (r : List Int × Int) (he : e ≠ 0 → r = ([], e))
    (ih : e = 0 → Ev (fun q => expr_degrees.l9 q L vars (X.map toP) ((X.length : Nat) : Int) ((i + 1 : Nat) : Int) (ds ++ [d])) r) :
    Ev (fun q => expr_degrees.j14 q L vars d e (X.map toP) ((X.length : Nat) : Int) (i : Int) ds) r := by
  refine Ev.step (fun q => by rw [expr_degrees.j14]) ?_
  by_cases g0 : e = 0
  · refine Ev.pos g0 (Ev.pos (by simp only [List.length_singleton]; omega) ?_)
    rw [w64_succ hi' (by omega)]
    exact ih g0
  · exact Ev.neg g0 (Ev.ret' (he g0).symm)
theorem degrees_l9 (L vars : Int) (X : List St) (hX : X.length ≤ 1000000) : ∀ (d i : Nat) (ds : List Int), i + d = X.length → ds.length = i → Small ds → Ev (fun q => expr_degrees.l9 q L vars (X.map toP) ((X.length : Nat) : Int) (i : Int) ds) (chkS L vars (X.drop i) ds) := by
  intro d
  induction d with
  | zero =>
    intro i ds hi _ _
    refine Ev.step (fun q => by rw [expr_degrees.l9]) (Ev.neg (by omega) (Ev.ret' ?_))
    rw [List.drop_eq_nil_of_le (by omega)]; rfl
  | succ d ih =>
    intro i ds hi hl hs
    have hi' : i < X.length := by omega
    refine Ev.step (fun q => by rw [expr_degrees.l9]) (Ev.pos (by omega) (Ev.pos (Int.natCast_nonneg _) (Ev.pos (by rw [List.length_map]; omega) ?_)))
    simp only [rdP]
    refine Ev.bnd (step_ev L vars _ ds hs) ?_
    rw [drop_cons hi']
    have hb := degS_bd hs (X.getD i st0)
    by_cases e : err0S L vars (X.getD i st0) (ds.length : Int) = 0
    · have es : stepS L vars (X.getD i st0) ds = (degS (X.getD i st0) ds, 0) := if_pos e
      rw [es]
      refine Ev.pos (by rfl) ?_
      by_cases h8 : degS (X.getD i st0) ds > 8
      · refine Ev.pos h8 (degrees_j14 L vars X ds _ _ i hX (by omega) hi' _ (fun _ => ?_) (fun h => absurd h (by decide)))
        have : errS L vars (X.getD i st0) ds = 7 := by unfold errS; rw [if_pos e, if_pos h8]
        unfold chkS; rw [this]; rfl
      · refine Ev.neg h8 (degrees_j14 L vars X ds _ _ i hX (by omega) hi' _ (fun h => absurd rfl h) (fun _ => ?_))
        have : errS L vars (X.getD i st0) ds = 0 := by unfold errS; rw [if_pos e, if_neg h8]
        unfold chkS; rw [if_pos this]
        exact ih (i + 1) _ (by omega) (by rw [List.length_append, hl]; rfl) (small_snoc hs hb.1 (by omega))
    · have es : stepS L vars (X.getD i st0) ds = (0, err0S L vars (X.getD i st0) (ds.length : Int)) := if_neg e
      have er : errS L vars (X.getD i st0) ds = err0S L vars (X.getD i st0) (ds.length : Int) := if_neg e
      rw [es]
      refine Ev.neg e (degrees_j14 L vars X ds _ _ i hX (by omega) hi' _ ?_ (fun h => absurd h e))
      intro _
      unfold chkS; rw [er, if_neg e]
theorem degrees_ev (L vars : Int) (X : List St) : Ev (fun q => expr_degrees.f q L vars (X.map toP)) (checkS L vars X) := by
  unfold expr_degrees.f
  rw [List.length_map]
  unfold checkS
  by_cases g : LvS L
  · obtain ⟨v, hv, hw⟩ := wide_in g
    refine Ev.bnd hw (Ev.neg hv ?_)
    by_cases h0 : vars < 0
    · rw [if_pos (Or.inr h0)]; exact Ev.pos h0 (Ev.ret _)
    rw [if_neg (fun h => h.elim (fun h => h g) h0)]
    refine Ev.neg h0 ?_
    by_cases g0 : X.length = 0
    · rw [if_pos g0]; exact Ev.pos (by omega) (Ev.ret _)
    rw [if_neg g0]
    refine Ev.neg (by omega) ?_
    by_cases g2 : X.length > 200
    · rw [if_pos g2]; exact Ev.pos (by omega) (Ev.ret _)
    rw [if_neg g2]
    refine Ev.neg (by omega) ?_
    exact degrees_l9 L vars X (by omega) X.length 0 [] (by omega) rfl (fun d h => by cases h)
  · rw [if_pos (Or.inl g)]
    exact Ev.bnd (wide_out g) (Ev.pos rfl (Ev.ret _))
theorem Check_ev (L vars : Int) (X : List St) : Ev (fun q => expr_Check.f q L vars (X.map toP)) (checkS L vars X).2 := by
  unfold expr_Check.f
  exact Ev.bnd (degrees_ev L vars X) (Ev.ret _)
/-- Nothing is wrong up to a step. -/
def OkS (L vars : Int) (X : List St) (n : Nat) : Prop := ∀ i, i < n → errS L vars (X.getD i st0) (G degS (X.take i)) = 0
theorem ok_zero (L vars : Int) (X : List St) : OkS L vars X 0 := fun i h => by omega
theorem ok_succ {L vars : Int} {X : List St} {n : Nat} (h : OkS L vars X n) (h' : errS L vars (X.getD n st0) (G degS (X.take n)) = 0) : OkS L vars X (n + 1) := by
  intro i hi
  by_cases e : i = n
  · rw [e]; exact h'
  · exact h i (by omega)
theorem err_zero {L vars : Int} {o : St} {ds : List Int} (h : errS L vars o ds = 0) : FormS o (ds.length : Int) ∧ degS o ds ≤ 8 ∧ (o.k = 1 → OfS L o.v) ∧ (o.k = 2 → 0 ≤ o.a ∧ o.a < vars) := by
  unfold errS at h
  by_cases e : err0S L vars o (ds.length : Int) = 0
  · rw [if_pos e] at h
    by_cases g : degS o ds > 8
    · rw [if_pos g] at h; exact absurd h (by decide)
    unfold err0S at e
    by_cases f : FormS o (ds.length : Int)
    · rw [if_pos f] at e
      by_cases f1 : o.k = 1 ∧ ¬ OfS L o.v
      · rw [if_pos f1] at e; exact absurd e (by decide)
      rw [if_neg f1] at e
      by_cases f2 : o.k = 2 ∧ (o.a < 0 ∨ o.a ≥ vars)
      · rw [if_pos f2] at e; exact absurd e (by decide)
      refine ⟨f, by omega, fun h1 => Decidable.not_not.1 (fun h2 => f1 ⟨h1, h2⟩), fun h1 => ?_⟩
      by_cases h2 : o.a < 0 ∨ o.a ≥ vars
      · exact absurd ⟨h1, h2⟩ f2
      · omega
    · rw [if_neg f] at e; exact absurd e (by decide)
  · rw [if_neg e] at h; exact absurd h e
theorem err_mk {L vars : Int} {o : St} {ds : List Int} (h1 : FormS o (ds.length : Int)) (h2 : degS o ds ≤ 8) (h3 : o.k = 1 → OfS L o.v) (h4 : o.k = 2 → 0 ≤ o.a ∧ o.a < vars) : errS L vars o ds = 0 := by
  have e : err0S L vars o (ds.length : Int) = 0 := by
    rw [err0_form h1, if_neg (fun h => h.2 (h3 h.1)), if_neg (fun h => by have := h4 h.1; omega)]
  unfold errS
  rw [if_pos e, if_neg (by omega)]
theorem ok_small {L vars : Int} {X : List St} {n : Nat} (hn : n ≤ X.length) (h : OkS L vars X n) : Small (G degS (X.take n)) :=
  G_mem degS (fun d => 0 ≤ d ∧ d ≤ 8) hn (fun i hi hs => ⟨(degS_bd hs _).1, (err_zero (h i hi)).2.1⟩) n (Nat.le_refl n)
theorem form_ahead {o : St} {i : Int} (h : FormS o i) (hk : o.k > 2) : AheadS o i := by
  rcases h with h | h | h
  · omega
  · omega
  · exact h.2.2
theorem form_kind {o : St} {i : Int} (h : FormS o i) : o.k = 1 ∨ o.k = 2 ∨ o.k = 3 ∨ o.k = 4 := by
  rcases h with h | h | h <;> omega
/-- Where the check ends well, nothing is wrong, and the degrees are those of all steps. -/
theorem chk_ok {L vars : Int} {X : List St} : ∀ (d i : Nat), i + d = X.length → OkS L vars X i → (chkS L vars (X.drop i) (G degS (X.take i))).2 = 0 → OkS L vars X X.length ∧ (chkS L vars (X.drop i) (G degS (X.take i))).1 = G degS X := by
  intro d
  induction d with
  | zero =>
    intro i hi hk h
    have : i = X.length := by omega
    subst this
    rw [List.drop_eq_nil_of_le (Nat.le_refl _), List.take_of_length_le (Nat.le_refl _)]
    exact ⟨hk, rfl⟩
  | succ d ih =>
    intro i hi hk h
    have hi' : i < X.length := by omega
    rw [drop_cons hi'] at h ⊢
    unfold chkS at h ⊢
    by_cases e : errS L vars (X.getD i st0) (G degS (X.take i)) = 0
    · rw [if_pos e] at h ⊢
      rw [← G_succ degS hi'] at h ⊢
      exact ih (i + 1) (by omega) (ok_succ hk e) h
    · rw [if_neg e] at h
      exact absurd h e
theorem check_ok {L vars : Int} {X : List St} (h : (checkS L vars X).2 = 0) : LvS L ∧ 0 ≤ vars ∧ 0 < X.length ∧ X.length ≤ 200 ∧ OkS L vars X X.length ∧ (checkS L vars X).1 = G degS X := by
  unfold checkS at h ⊢
  by_cases g : ¬ LvS L ∨ vars < 0
  · rw [if_pos g] at h; exact absurd h (by decide)
  rw [if_neg g] at h ⊢
  by_cases g0 : X.length = 0
  · rw [if_pos g0] at h; exact absurd h (by decide)
  rw [if_neg g0] at h ⊢
  by_cases g2 : X.length > 200
  · rw [if_pos g2] at h; exact absurd h (by decide)
  rw [if_neg g2] at h ⊢
  have := chk_ok (L := L) (vars := vars) (X := X) X.length 0 (by omega) (ok_zero _ _ _) h
  exact ⟨Decidable.not_not.1 fun h => g (Or.inl h), by omega, by omega, by omega, this⟩
theorem Degree_ev (X : List St) : Ev (fun q => expr_Degree.f q (X.map toP)) (if (checkS 7 9223372036854775807 X).2 = 0 then degS (X.getD (X.length - 1) st0) (G degS (X.take (X.length - 1))) else -1) := by
  unfold expr_Degree.f
  refine Ev.bnd (degrees_ev 7 9223372036854775807 X) ?_
  by_cases c : (checkS 7 9223372036854775807 X).2 = 0
  · have hr : (if (checkS 7 9223372036854775807 X).2 = 0 then degS (X.getD (X.length - 1) st0) (G degS (X.take (X.length - 1))) else -1) = _ := if_pos c
    rw [hr]
    obtain ⟨_, _, h0, h2, _, e⟩ := check_ok c
    have hl : (G degS X).length = X.length := by have := G_length degS (X := X) (Nat.le_refl X.length); rwa [List.take_length] at this
    refine Ev.pos c ?_
    rw [e, hl]
    have ew : wrap64 ((X.length : Int) - 1) = ((X.length - 1 : Nat) : Int) := by rw [w64_id (by omega) (by omega)]; omega
    simp only [ew]
    refine Ev.pos (Int.natCast_nonneg _) (Ev.pos (by omega) (Ev.ret' ?_))
    unfold rdI
    rw [Int.toNat_natCast]
    have := G_last degS (0 : Int) (X := X) (i := X.length - 1) (by omega)
    rw [show X.length - 1 + 1 = X.length by omega, List.take_length] at this
    exact this
  · have hr : (if (checkS 7 9223372036854775807 X).2 = 0 then degS (X.getD (X.length - 1) st0) (G degS (X.take (X.length - 1))) else -1) = _ := if_neg c
    rw [hr]; exact Ev.neg c (Ev.ret _)
end Go.Proofs.Ytlamlgfngpmhgaa.Sp
namespace Go.Proofs.Ytlamlgfngpmhgaa.Sp
open Go.Proofs.Ytlamlgfngpmhgaa.V.B Go.RowKit Go.Proofs.Ytlamlgfngpmhgaa.B Go.Proofs.Ytlamlgfngpmhgaa.V.B.Ar Go.Proofs.Ytlamlgfngpmhgaa.V.B.Tw
set_option linter.unusedVariables false
set_option linter.unusedSimpArgs false
theorem degreeAt_l3 (X : List St) (n : Nat) (hn : n < X.length) (hX : X.length ≤ 1000000) (hA : ∀ j, j ≤ n → (X.getD j st0).k > 2 → AheadS (X.getD j st0) (j : Int)) (hsj : ∀ j, j ≤ n → Small (G degS (X.take j))) :
    ∀ (d j : Nat), j + d = n + 1 → Ev (fun q => steepleref16_DegreeAt.l3 q (X.map toD) (n : Int) (j : Int) (G degS (X.take j))) (degS (X.getD n st0) (G degS (X.take n))) := by
  intro d
  induction d with
  | zero =>
    intro j hj
    have : j = n + 1 := by omega
    subst this
    refine Ev.step (fun q => by rw [steepleref16_DegreeAt.l3]) (Ev.neg (by omega) (Ev.pos (Int.natCast_nonneg _) (Ev.pos (by rw [G_length degS (by omega)]; omega) (Ev.ret' ?_))))
    unfold rdI
    rw [Int.toNat_natCast]
    exact G_last degS 0 hn
  | succ d ih =>
    intro j hj
    have hj' : j < X.length := by omega
    have hl := G_length degS (X := X) (i := j) (by omega)
    have hih := ih (j + 1) (by omega)
    rw [G_succ degS hj'] at hih
    have hA' := hA j (by omega)
    have hsm := hsj j (by omega)
    have fin : ∀ v : Int, v = degS (X.getD j st0) (G degS (X.take j)) → Ev (fun q => steepleref16_DegreeAt.j14 q (X.map toD) (n : Int) (j : Int) v (G degS (X.take j))) (degS (X.getD n st0) (G degS (X.take n))) := by
      intro v hv
      refine Ev.step (fun q => by rw [steepleref16_DegreeAt.j14]) (Ev.pos (by simp only [List.length_singleton, hl]; omega) (Ev.step (fun q => by rw [steepleref16_DegreeAt.j4]) ?_))
      rw [w64_succ hj' (show X.length ≤ 4611686018427387904 by omega), hv]
      exact hih
    have h12 : ∀ v : Int, ((X.getD j st0).k ≠ 4 → v = degS (X.getD j st0) (G degS (X.take j))) → Ev (fun q => steepleref16_DegreeAt.j12 q (X.map toD) (n : Int) (j : Int) v (G degS (X.take j))) (degS (X.getD n st0) (G degS (X.take n))) := by
      intro v hv
      refine Ev.step (fun q => by rw [steepleref16_DegreeAt.j12]) (Ev.pos (Int.natCast_nonneg _) (Ev.pos (by rw [List.length_map]; omega) ?_))
      simp only [rdD]
      by_cases k4 : (X.getD j st0).k = 4
      · have ha := hA' (by omega)
        unfold AheadS at ha
        refine Ev.pos k4 (Ev.pos (Int.natCast_nonneg _) (Ev.pos (by rw [List.length_map]; omega) (Ev.pos ha.1 (Ev.pos (by rw [hl]; exact ha.2.1) (Ev.pos (Int.natCast_nonneg _) (Ev.pos (by rw [List.length_map]; omega) (Ev.pos ha.2.2.1 (Ev.pos (by rw [hl]; exact ha.2.2.2) (fin _ ?_)))))))))
        have r1 := rd_small hsm (X.getD j st0).a
        have r2 := rd_small hsm (X.getD j st0).b
        show wrap64 (rdI (G degS (X.take j)) (X.getD j st0).a + rdI (G degS (X.take j)) (X.getD j st0).b) = _
        rw [w64_id (by omega) (by omega)]
        unfold degS; rw [if_neg (by omega), if_neg (by omega), if_pos k4]
      · exact Ev.neg k4 (fin _ (hv k4))
    have h8 : ∀ v : Int, (v = if (X.getD j st0).k = 2 then 1 else 0) → Ev (fun q => steepleref16_DegreeAt.j8 q (X.map toD) (n : Int) (j : Int) v (G degS (X.take j))) (degS (X.getD n st0) (G degS (X.take n))) := by
      intro v hv
      refine Ev.step (fun q => by rw [steepleref16_DegreeAt.j8]) (Ev.pos (Int.natCast_nonneg _) (Ev.pos (by rw [List.length_map]; omega) ?_))
      simp only [rdD]
      by_cases k3 : (X.getD j st0).k = 3
      · have ha := hA' (by omega)
        unfold AheadS at ha
        have hdeg : degS (X.getD j st0) (G degS (X.take j)) = mx (rdI (G degS (X.take j)) (X.getD j st0).a) (rdI (G degS (X.take j)) (X.getD j st0).b) := by
          generalize G degS (X.take j) = ds
          unfold degS; rw [if_neg (by omega), if_pos k3]
        refine Ev.pos k3 (Ev.pos (Int.natCast_nonneg _) (Ev.pos (by rw [List.length_map]; omega) (Ev.pos ha.1 (Ev.pos (by rw [hl]; exact ha.2.1) (Ev.pos (Int.natCast_nonneg _) (Ev.pos (by rw [List.length_map]; omega) (Ev.pos ha.2.2.1 (Ev.pos (by rw [hl]; exact ha.2.2.2) ?_))))))))
        by_cases g : rdI (G degS (X.take j)) (X.getD j st0).b > rdI (G degS (X.take j)) (X.getD j st0).a
        · refine Ev.pos g (Ev.pos (Int.natCast_nonneg _) (Ev.pos (by rw [List.length_map]; omega) (Ev.pos ha.2.2.1 (Ev.pos (by rw [hl]; exact ha.2.2.2) (h12 _ fun _ => ?_)))))
          rw [hdeg]; unfold mx; rw [if_pos g]
        · refine Ev.neg g (h12 _ fun _ => ?_)
          rw [hdeg]; unfold mx; rw [if_neg g]
      · refine Ev.neg k3 (h12 _ fun k4 => ?_)
        rw [hv]
        generalize G degS (X.take j) = ds
        unfold degS; rw [if_neg k3, if_neg k4]
    refine Ev.step (fun q => by rw [steepleref16_DegreeAt.l3]) (Ev.pos (by omega) (Ev.pos (Int.natCast_nonneg _) (Ev.pos (by rw [List.length_map]; omega) ?_)))
    simp only [rdD]
    by_cases k2 : (X.getD j st0).k = 2
    · exact Ev.pos k2 (h8 1 (by rw [if_pos k2]))
    · exact Ev.neg k2 (h8 0 (by rw [if_neg k2]))
theorem degreeAt_ev (X : List St) (n : Nat) (hn : n < X.length) (hX : X.length ≤ 1000000) {L vars : Int} (ok : OkS L vars X n) (hA : (X.getD n st0).k > 2 → AheadS (X.getD n st0) (n : Int)) :
    Ev (fun q => steepleref16_DegreeAt.f q (X.map toD) (n : Int)) (degS (X.getD n st0) (G degS (X.take n))) := by
  unfold steepleref16_DegreeAt.f
  have hsj : ∀ j, j ≤ n → Small (G degS (X.take j)) := fun j hj => ok_small (by omega) (fun i hi => ok i (by omega))
  refine degreeAt_l3 X n hn hX ?_ hsj (n + 1) 0 (by omega)
  intro j hj
  by_cases e : j = n
  · rw [e]; exact hA
  · intro hk
    have := form_ahead (err_zero (ok j (by omega))).1 hk
    rwa [G_length degS (by omega)] at this
theorem refCheck_step (L vars : Int) (X : List St) (n : Nat) (hn : n < X.length) (hX : X.length ≤ 1000000) (ok : OkS L vars X n) (r : Int)
    (h1 : errS L vars (X.getD n st0) (G degS (X.take n)) ≠ 0 → r = errS L vars (X.getD n st0) (G degS (X.take n)))
    (h2 : errS L vars (X.getD n st0) (G degS (X.take n)) = 0 → Ev (fun q => steepleref16_Check.l9 q L vars (X.map toD) ((n + 1 : Nat) : Int) 0 0) r) :
    Ev (fun q => steepleref16_Check.l9 q L vars (X.map toD) (n : Int) 0 0) r := by
  have hl := G_length degS (X := X) (i := n) (by omega)
  have hdeg := fun hA => degreeAt_ev X n hn hX ok hA
  generalize hds : G degS (X.take n) = ds at *
  generalize ho : X.getD n st0 = o at *
  have hlen : (ds.length : Int) = (n : Int) := by rw [hl]
  have hbad : ¬ FormS o (n : Int) → r = 3 := by
    intro h
    have e0 : err0S L vars o (ds.length : Int) = 3 := by unfold err0S; rw [if_neg (by rw [hlen]; exact h)]
    have : errS L vars o ds = 3 := by unfold errS; rw [e0]; rfl
    rw [h1 (by rw [this]; decide), this]
  -- the last tests
  have j22 : FormS o (n : Int) → (o.k = 1 → OfS L o.v) → (o.k = 2 → 0 ≤ o.a ∧ o.a < vars) → Ev (fun q => steepleref16_Check.j22 q L vars (X.map toD) (n : Int) 0 0) r := by
    intro hf c1 c2
    have hf' : FormS o (ds.length : Int) := by rw [hlen]; exact hf
    refine Ev.step (fun q => by rw [steepleref16_Check.j22]) (Ev.bnd (hdeg (form_ahead hf)) ?_)
    have he := err0_form (L := L) (vars := vars) hf'
    rw [if_neg (fun h => h.2 (c1 h.1)), if_neg (fun h => by have := c2 h.1; omega)] at he
    by_cases g : degS o ds > 8
    · refine Ev.pos g (Ev.ret' ?_)
      have : errS L vars o ds = 7 := by unfold errS; rw [if_pos he, if_pos g]
      rw [h1 (by rw [this]; decide), this]
    · refine Ev.neg g (Ev.step (fun q => by rw [steepleref16_Check.j10]) ?_)
      rw [w64_succ hn (by omega)]
      exact h2 (by unfold errS; rw [if_pos he, if_neg g])
  have j20 : FormS o (n : Int) → (o.k = 1 → OfS L o.v) → Ev (fun q => steepleref16_Check.j20 q L vars (X.map toD) (n : Int) 0 0 o.k o.a o.b (hi o.v) (lo o.v)) r := by
    intro hf c1
    refine Ev.step (fun q => by rw [steepleref16_Check.j20]) ?_
    have bad : o.k = 2 → (o.a < 0 ∨ o.a ≥ vars) → Ev (fun q => steepleref16_Check.j21 q) r := fun k2 g => by
      refine Ev.step (fun q => by rw [steepleref16_Check.j21]) (Ev.ret' ?_)
      have he := err0_form (L := L) (vars := vars) (show FormS o (ds.length : Int) by rw [hlen]; exact hf)
      rw [if_neg (fun h => h.2 (c1 h.1)), if_pos ⟨k2, g⟩] at he
      have : errS L vars o ds = 4 := by unfold errS; rw [he]; rfl
      rw [h1 (by rw [this]; decide), this]
    by_cases k2 : o.k = 2
    · refine Ev.pos k2 ?_
      by_cases ha : o.a < 0
      · exact Ev.pos ha (bad k2 (Or.inl ha))
      · refine Ev.neg ha ?_
        by_cases hb : o.a ≥ vars
        · exact Ev.pos hb (bad k2 (Or.inr hb))
        · exact Ev.neg hb (j22 hf c1 fun _ => by omega)
    · exact Ev.neg k2 (j22 hf c1 fun h => absurd h k2)
  have j18 : FormS o (n : Int) → Ev (fun q => steepleref16_Check.j18 q L vars (X.map toD) (n : Int) 0 0 o.k o.a o.b (hi o.v) (lo o.v)) r := by
    intro hf
    refine Ev.step (fun q => by rw [steepleref16_Check.j18]) ?_
    by_cases k1 : o.k = 1
    · refine Ev.pos k1 (Ev.bnd (refOf_ev L o.v) ?_)
      by_cases g : OfS L o.v
      · exact Ev.neg (by simpa using g) (j20 hf fun _ => g)
      · refine Ev.pos (by simpa using g) (Ev.ret' ?_)
        have he := err0_form (L := L) (vars := vars) (show FormS o (ds.length : Int) by rw [hlen]; exact hf)
        rw [if_pos ⟨k1, g⟩] at he
        have : errS L vars o ds = 5 := by unfold errS; rw [he]; rfl
        rw [h1 (by rw [this]; decide), this]
    · exact Ev.neg k1 (j20 hf fun h => absurd h k1)
  have j16 : ((o.k = 1 ∧ o.a = 0 ∧ o.b = 0) ∨ (o.k = 2 ∧ o.b = 0 ∧ o.v = 0) ∨ ((o.k = 3 ∨ o.k = 4) ∧ o.v = 0)) → Ev (fun q => steepleref16_Check.j16 q L vars (X.map toD) (n : Int) 0 0 o.k o.a o.b (hi o.v) (lo o.v)) r := by
    intro g
    refine Ev.step (fun q => by rw [steepleref16_Check.j16]) ?_
    by_cases k2 : o.k > 2
    · refine Ev.pos k2 ?_
      have hv : (o.k = 3 ∨ o.k = 4) ∧ o.v = 0 := by
        rcases g with h | h | h
        · omega
        · omega
        · exact h
      have bad : ¬ AheadS o (n : Int) → Ev (fun q => steepleref16_Check.j17 q) r := fun h =>
        Ev.step (fun q => by rw [steepleref16_Check.j17]) (Ev.ret' (hbad fun hf => h (form_ahead hf k2)).symm)
      by_cases a1 : o.a < 0
      · exact Ev.pos a1 (bad (by unfold AheadS; omega))
      refine Ev.neg a1 ?_
      by_cases a2 : o.a ≥ (n : Int)
      · exact Ev.pos a2 (bad (by unfold AheadS; omega))
      refine Ev.neg a2 ?_
      by_cases a3 : o.b < 0
      · exact Ev.pos a3 (bad (by unfold AheadS; omega))
      refine Ev.neg a3 ?_
      by_cases a4 : o.b ≥ (n : Int)
      · exact Ev.pos a4 (bad (by unfold AheadS; omega))
      refine Ev.neg a4 (j18 (Or.inr (Or.inr ⟨hv.1, hv.2, ?_⟩)))
      unfold AheadS; omega
    · refine Ev.neg k2 (j18 ?_)
      rcases g with h | h | h
      · exact Or.inl h
      · exact Or.inr (Or.inl h)
      · omega
  have j15 : ¬ FormS o (n : Int) → Ev (fun q => steepleref16_Check.j15 q) r := fun h => Ev.step (fun q => by rw [steepleref16_Check.j15]) (Ev.ret' (hbad h).symm)
  have hz := eq_zero_iff o.v
  refine Ev.step (fun q => by rw [steepleref16_Check.l9]) (Ev.pos (by rw [List.length_map]; omega) (Ev.pos (Int.natCast_nonneg _) (Ev.pos (by rw [List.length_map]; omega) ?_)))
  simp only [rdD, ho]
  by_cases k0 : o.k < 1
  · exact Ev.pos k0 (Ev.ret' (hbad fun hf => by rcases form_kind hf with h | h | h | h <;> omega).symm)
  refine Ev.neg k0 ?_
  by_cases k4 : o.k > 4
  · exact Ev.pos k4 (Ev.ret' (hbad fun hf => by rcases form_kind hf with h | h | h | h <;> omega).symm)
  refine Ev.neg k4 ?_
  by_cases k1 : o.k = 1
  · refine Ev.pos k1 ?_
    by_cases ha : o.a = 0
    · refine Ev.pos ha ?_
      by_cases hb : o.b = 0
      · exact Ev.pos hb (Ev.neg (by omega) (Ev.neg (by omega) (j16 (Or.inl ⟨k1, ha, hb⟩))))
      · refine Ev.neg hb (j15 ?_)
        rintro (h | h | h)
        · exact hb h.2.2
        · omega
        · omega
    · refine Ev.neg ha (j15 ?_)
      rintro (h | h | h)
      · exact ha h.2.1
      · omega
      · omega
  refine Ev.neg k1 ?_
  by_cases k2 : o.k = 2
  · refine Ev.pos k2 ?_
    by_cases hb : o.b = 0
    · refine Ev.pos hb (Ev.pos (by omega) ?_)
      by_cases hv : o.v = 0
      · exact Ev.pos (hz.1 hv) (j16 (Or.inr (Or.inl ⟨k2, hb, hv⟩)))
      · refine Ev.neg (fun h => hv (hz.2 h)) (j15 ?_)
        rintro (h | h | h)
        · exact k1 h.1
        · exact hv h.2.2
        · exact hv h.2.1
    · refine Ev.neg hb (j15 ?_)
      rintro (h | h | h)
      · exact k1 h.1
      · exact hb h.2.1
      · omega
  · refine Ev.neg k2 (Ev.pos (by omega) ?_)
    by_cases hv : o.v = 0
    · exact Ev.pos (hz.1 hv) (j16 (Or.inr (Or.inr ⟨by omega, hv⟩)))
    · refine Ev.neg (fun h => hv (hz.2 h)) (j15 ?_)
      rintro (h | h | h)
      · exact k1 h.1
      · exact hv h.2.2
      · exact hv h.2.1
theorem refCheck_l9 (L vars : Int) (X : List St) (hX : X.length ≤ 1000000) : ∀ (d n : Nat), n + d = X.length → OkS L vars X n → Ev (fun q => steepleref16_Check.l9 q L vars (X.map toD) (n : Int) 0 0) (chkS L vars (X.drop n) (G degS (X.take n))).2 := by
  intro d
  induction d with
  | zero =>
    intro n hn _
    refine Ev.step (fun q => by rw [steepleref16_Check.l9]) (Ev.neg (by rw [List.length_map]; omega) (Ev.ret' ?_))
    rw [List.drop_eq_nil_of_le (by omega)]; rfl
  | succ d ih =>
    intro n hn ok
    have hn' : n < X.length := by omega
    refine refCheck_step L vars X n hn' hX ok _ ?_ ?_
    · intro h
      rw [drop_cons hn']; unfold chkS; rw [if_neg h]
    · intro h
      have hih := ih (n + 1) (by omega) (ok_succ ok h)
      rw [G_succ degS hn'] at hih
      rw [drop_cons hn']; unfold chkS; rw [if_pos h]; exact hih
theorem refCheck_ev (L vars : Int) (X : List St) : Ev (fun q => steepleref16_Check.f q L vars (X.map toD)) (checkS L vars X).2 := by
  unfold steepleref16_Check.f
  rw [List.length_map]
  have bad : (¬ LvS L ∨ vars < 0) → (checkS L vars X).2 = 1 := fun h => by unfold checkS; rw [if_pos h]
  by_cases h0 : L < 0
  · exact Ev.pos h0 (Ev.ret' (bad (Or.inl (by unfold LvS; omega))).symm)
  refine Ev.neg h0 ?_
  by_cases h7 : L > 7
  · exact Ev.pos h7 (Ev.ret' (bad (Or.inl (by unfold LvS; omega))).symm)
  refine Ev.neg h7 ?_
  by_cases hv : vars < 0
  · exact Ev.pos hv (Ev.ret' (bad (Or.inr hv)).symm)
  refine Ev.neg hv ?_
  have hg : ¬ (¬ LvS L ∨ vars < 0) := by unfold LvS; omega
  unfold checkS
  rw [if_neg hg]
  by_cases g0 : X.length = 0
  · rw [if_pos g0]; exact Ev.pos (by omega) (Ev.ret _)
  rw [if_neg g0]
  refine Ev.neg (by omega) ?_
  by_cases g2 : X.length > 200
  · rw [if_pos g2]; exact Ev.pos (by omega) (Ev.ret _)
  rw [if_neg g2]
  refine Ev.neg (by omega) ?_
  exact refCheck_l9 L vars X (by omega) X.length 0 (by omega) (ok_zero _ _ _)
theorem refSteps_l3 (X : List St) (hX : X.length ≤ 1000000) : ∀ (d i : Nat), i + d = X.length → Ev (fun q => steeplelaw16_Ref.l3 q (X.map toP) (i : Int) ((X.take i).map toD)) (X.map toD) := by
  intro d
  induction d with
  | zero =>
    intro i hi
    refine Ev.step (fun q => by rw [steeplelaw16_Ref.l3]) (Ev.neg (by rw [List.length_map]; omega) (Ev.ret' ?_))
    rw [List.take_of_length_le (by omega)]
  | succ d ih =>
    intro i hi
    have hi' : i < X.length := by omega
    have hm : (i : Int) < ((X.map toP).length : Int) := by rw [List.length_map]; omega
    refine Ev.step (fun q => by rw [steeplelaw16_Ref.l3]) (Ev.pos hm (Ev.pos (Int.natCast_nonneg _) (Ev.pos hm (Ev.pos (Int.natCast_nonneg _) (Ev.pos hm (Ev.pos (Int.natCast_nonneg _) (Ev.pos hm (Ev.pos (Int.natCast_nonneg _) (Ev.pos hm (Ev.pos (by rw [List.length_map, List.length_take, List.length_singleton]; omega) ?_))))))))))
    simp only [rdP, w64_succ hi' (show X.length ≤ 4611686018427387904 by omega)]
    have hih := ih (i + 1) (by omega)
    rw [map_take_succ toD X st0 i hi'] at hih
    exact hih
theorem refSteps_ev (X : List St) (hX : X.length ≤ 1000000) : Ev (fun q => steeplelaw16_Ref.f q (X.map toP)) (X.map toD) := refSteps_l3 X hX X.length 0 (by omega)
/-- The value of a step. -/
def valS (V : List E) (o : St) (xs : List E) : E := if o.k = 2 then V.getD o.a.toNat 0 else if o.k = 3 then xs.getD o.a.toNat 0 + xs.getD o.b.toNat 0 else if o.k = 4 then xs.getD o.a.toNat 0 * xs.getD o.b.toNat 0 else o.v
theorem rdSi (X : List E) {i : Int} (h : 0 ≤ i) : rd34 (X.map toS) i = toS (X.getD i.toNat 0) := by
  have := rdS X i.toNat
  rwa [Int.toNat_of_nonneg h] at this
theorem map_snoc {α β : Type} (f : α → β) (X : List α) (x : α) : X.map f ++ [f x] = (X ++ [x]).map f := by rw [List.map_append]; rfl
/-- The program's values. -/
theorem vals_in {l : Nat} (hl : l ≤ 7) {vars : Int} {X : List St} {V : List E} (ok : OkS (l : Int) vars X X.length) (hA : AllS (l : Int) V) : ∀ j, j ≤ X.length → ∀ y ∈ G (valS V) (X.take j), InL l y := by
  have hin : ∀ (Y : List E) (i : Nat), (∀ y ∈ Y, InL l y) → InL l (Y.getD i 0) := by
    intro Y i h
    rw [List.getD_eq_getElem?_getD]
    cases e : Y[i]? with
    | none => exact inL_zero l
    | some y => exact h y (List.mem_of_getElem? e)
  refine G_mem (valS V) (InL l) (Nat.le_refl _) (fun i hi' h => ?_)
  have hok := err_zero (ok i hi')
  have hk := form_kind hok.1
  unfold valS
  by_cases k2 : (X.getD i st0).k = 2
  · rw [if_pos k2]
    refine hin V _ (fun y hy => ?_)
    have := (hA y hy).2.2
    rwa [Int.toNat_natCast] at this
  rw [if_neg k2]
  by_cases k3 : (X.getD i st0).k = 3
  · rw [if_pos k3]; exact inL_add (hin _ _ h) (hin _ _ h)
  rw [if_neg k3]
  by_cases k4 : (X.getD i st0).k = 4
  · rw [if_pos k4]; exact inL_mul hl (hin _ _ h) (hin _ _ h)
  rw [if_neg k4]
  have := (hok.2.2.1 (by omega)).2.2
  rwa [Int.toNat_natCast] at this
theorem eval_l12 {l : Nat} (hl : l ≤ 7) (X : List St) (V : List E) (hX : X.length ≤ 1000000) (hV : V.length ≤ 1000000) (n : Nat) (hn : X.length = n + 1) (ok : OkS (l : Int) (V.length : Int) X X.length) (hA : AllS (l : Int) V) :
    ∀ (d j : Nat), j + d = n + 1 → Ev (fun q => expr_Eval.l12 q (l : Int) (V.map toS) (X.map toP) ((X.length : Nat) : Int) (j : Int) 0 0 ((G (valS V) (X.take j)).map toS)) (toS (valS V (X.getD n st0) (G (valS V) (X.take n))), 0) := by
  intro d
  induction d with
  | zero =>
    intro j hj
    have : j = n + 1 := by omega
    subst this
    have e : wrap64 (((((G (valS V) (X.take (n + 1))).map toS).length : Nat) : Int) - 1) = (n : Int) := by
      rw [List.length_map, G_length (valS V) (by omega), w64_id (by omega) (by omega)]; omega
    refine Ev.step (fun q => by rw [expr_Eval.l12]) (Ev.neg (by omega) ?_)
    simp only [e]
    refine Ev.pos (Int.natCast_nonneg _) (Ev.pos (by rw [List.length_map, G_length (valS V) (by omega)]; omega) (Ev.ret' ?_))
    rw [rdS, G_last (valS V) 0 (by omega)]
  | succ d ih =>
    intro j hj
    have hj' : j < X.length := by omega
    have hl' := G_length (valS V) (X := X) (i := j) (by omega)
    have hih := ih (j + 1) (by omega)
    rw [G_succ (valS V) hj', ← map_snoc] at hih
    have hok := err_zero (ok j hj')
    rw [G_length degS (by omega)] at hok
    have hlm : ((G (valS V) (X.take j)).map toS).length = j := by rw [List.length_map]; exact hl'
    have hin := vals_in hl ok hA j (by omega)
    have hgd : ∀ i : Nat, InL l ((G (valS V) (X.take j)).getD i 0) := by
      intro i
      rw [List.getD_eq_getElem?_getD]
      cases e : (G (valS V) (X.take j))[i]? with
      | none => exact inL_zero l
      | some y => exact hin y (List.mem_of_getElem? e)
    have fin : ∀ x : E, x = valS V (X.getD j st0) (G (valS V) (X.take j)) → Ev (fun q => expr_Eval.j24 q (l : Int) (V.map toS) (X.map toP) ((X.length : Nat) : Int) (j : Int) 0 0 ((G (valS V) (X.take j)).map toS) (hi x) (lo x)) (toS (valS V (X.getD n st0) (G (valS V) (X.take n))), 0) := by
      intro x hx
      refine Ev.step (fun q => by rw [expr_Eval.j24]) (Ev.pos (by rw [hlm, List.length_singleton]; omega) ?_)
      rw [w64_succ hj' (show X.length ≤ 4611686018427387904 by omega), hx]
      exact hih
    refine Ev.step (fun q => by rw [expr_Eval.l12]) (Ev.pos (by omega) (Ev.pos (Int.natCast_nonneg _) (Ev.pos (by rw [List.length_map]; omega) ?_)))
    simp only [rdP]
    clear hih ih
    generalize G (valS V) (X.take j) = xs at *
    generalize X.getD j st0 = o at *
    have hk := form_kind hok.1
    by_cases k1 : o.k = 1
    · refine Ev.pos k1 (fin o.v ?_)
      unfold valS; rw [if_neg (by omega), if_neg (by omega), if_neg (by omega)]
    refine Ev.neg k1 ?_
    by_cases k2 : o.k = 2
    · have hv2 := hok.2.2.2 k2
      refine Ev.pos k2 (Ev.pos hv2.1 (Ev.pos (by rw [List.length_map]; exact hv2.2) ?_))
      rw [rdSi V hv2.1]
      refine fin _ ?_
      unfold valS; rw [if_pos k2]
    refine Ev.neg k2 ?_
    by_cases k3 : o.k = 3
    · have ha := form_ahead hok.1 (by omega)
      unfold AheadS at ha
      refine Ev.pos k3 (Ev.pos ha.1 (Ev.pos (by rw [hlm]; exact ha.2.1) (Ev.pos ha.2.2.1 (Ev.pos (by rw [hlm]; exact ha.2.2.2) ?_))))
      rw [rdSi xs ha.1, rdSi xs ha.2.2.1]
      refine Ev.bnd (Add_ev _ _) (fin _ ?_)
      unfold valS; rw [if_neg (by omega), if_pos k3]
    refine Ev.neg k3 ?_
    have k4 : o.k = 4 := by omega
    have ha := form_ahead hok.1 (by omega)
    unfold AheadS at ha
    refine Ev.pos k4 (Ev.pos ha.1 (Ev.pos (by rw [hlm]; exact ha.2.1) (Ev.pos ha.2.2.1 (Ev.pos (by rw [hlm]; exact ha.2.2.2) ?_))))
    rw [rdSi xs ha.1, rdSi xs ha.2.2.1]
    refine Ev.bnd (Mul_ev hl (hgd _) (hgd _)) (fin _ ?_)
    unfold valS; rw [if_neg (by omega), if_neg k3, if_pos k4]
theorem eval_l5 (L : Int) (X : List St) (V : List E) (hV : V.length ≤ 1000000) (r : S34 × Int) (h5 : ¬ AllS L V → r = (⟨0, 0⟩, 5)) (h0 : AllS L V → Ev (fun q => expr_Eval.l12 q L (V.map toS) (X.map toP) ((X.length : Nat) : Int) 0 0 0 []) r) :
    ∀ (d j : Nat), j + d = V.length → (AllS L (V.drop j) → AllS L V) → (AllS L V → AllS L (V.drop j)) → Ev (fun q => expr_Eval.l5 q L (X.map toP) (V.map toS) (V.map toS) ((V.length : Nat) : Int) (j : Int) 0 0) r := by
  intro d
  induction d with
  | zero =>
    intro j hj hA _
    refine Ev.step (fun q => by rw [expr_Eval.l5]) (Ev.neg (by omega) ?_)
    rw [List.length_map]
    refine h0 (hA ?_)
    rw [List.drop_eq_nil_of_le (by omega)]
    intro x hx; cases hx
  | succ d ih =>
    intro j hj hA hB
    have hj' : j < V.length := by omega
    refine Ev.step (fun q => by rw [expr_Eval.l5]) (Ev.pos (by omega) (Ev.pos (Int.natCast_nonneg _) (Ev.pos (by rw [List.length_map]; omega) ?_)))
    simp only [rdS, w64_succ hj' (show V.length ≤ 4611686018427387904 by omega)]
    refine Ev.bnd (of_ev L _) ?_
    have hd := allS_drop (L := L) hj'
    by_cases c : OfS L (V.getD j 0)
    · exact Ev.neg (by simpa using c) (ih (j + 1) (by omega) (fun h => hA (hd.2 ⟨c, h⟩)) (fun h => (hd.1 (hB h)).2))
    · exact Ev.pos (by simpa using c) (Ev.ret' (h5 fun h => c (hd.1 (hB h)).1).symm)
/-- What Eval tells. -/
def lastS (X : List St) (V : List E) : E := valS V (X.getD (X.length - 1) st0) (G (valS V) (X.take (X.length - 1)))
def evalErr (L : Int) (X : List St) (V : List E) : Int := if (checkS L (V.length : Int) X).2 = 0 then (if AllS L V then 0 else 5) else (checkS L (V.length : Int) X).2
theorem Eval_ev (L : Int) (X : List St) (V : List E) (hV : V.length ≤ 1000000) : Ev (fun q => expr_Eval.f q L (X.map toP) (V.map toS)) (if evalErr L X V = 0 then (toS (lastS X V), 0) else (⟨0, 0⟩, evalErr L X V)) := by
  unfold expr_Eval.f
  rw [List.length_map]
  refine Ev.bnd (Check_ev L (V.length : Int) X) ?_
  by_cases c : (checkS L (V.length : Int) X).2 = 0
  · refine Ev.pos c ?_
    have he : evalErr L X V = if AllS L V then 0 else 5 := if_pos c
    refine eval_l5 L X V hV _ ?_ ?_ V.length 0 (by omega) (fun h => by rwa [List.drop_zero] at h) (fun h => by rwa [List.drop_zero])
    · intro h; rw [if_neg h] at he; rw [he]; rfl
    · intro h
      rw [if_pos h] at he; rw [he, if_pos rfl]
      obtain ⟨hL, _, h0, h200, ok, _⟩ := check_ok c
      obtain ⟨l, rfl⟩ := Int.eq_ofNat_of_zero_le hL.1
      exact eval_l12 (by have := hL.2; omega) X V (by omega) hV (X.length - 1) (by omega) ok h (X.length - 1 + 1) 0 (by omega)
  · have he : evalErr L X V = (checkS L (V.length : Int) X).2 := if_neg c
    rw [he]
    have hr : (if (checkS L (V.length : Int) X).2 = 0 then (toS (lastS X V), (0 : Int)) else (⟨0, 0⟩, (checkS L (V.length : Int) X).2)) = (⟨0, 0⟩, (checkS L (V.length : Int) X).2) := if_neg c
    rw [hr]
    exact Ev.neg c (Ev.ret _)
end Go.Proofs.Ytlamlgfngpmhgaa.Sp
namespace Go.Proofs.Ytlamlgfngpmhgaa.Sp
open Go.Proofs.Ytlamlgfngpmhgaa.V.B Go.RowKit Go.Proofs.Ytlamlgfngpmhgaa.B Go.Proofs.Ytlamlgfngpmhgaa.V.B.Ar Go.Proofs.Ytlamlgfngpmhgaa.V.B.Tw
set_option linter.unusedVariables false
set_option linter.unusedSimpArgs false
abbrev Iv := Option (Nat × Value)
/-! ### What is told of the i-th step -/
def gx {β : Type} (f : St → List β → β) (d : β) (X : List St) (i : Nat) : β := (G f X).getD i d
theorem grow_pre {β : Type} (f : St → List β → β) : ∀ (X : List St) (l : List β), ∃ r, grow f X l = l ++ r
  | [], l => ⟨[], by simp [grow]⟩
  | o :: t, l => by
    obtain ⟨r, hr⟩ := grow_pre f t (l ++ [f o l])
    exact ⟨[f o l] ++ r, by rw [grow, hr, List.append_assoc]⟩
theorem grow_app {β : Type} (f : St → List β → β) : ∀ (X Y : List St) (l : List β), grow f (X ++ Y) l = grow f Y (grow f X l)
  | [], Y, l => rfl
  | o :: t, Y, l => by
    show grow f (t ++ Y) _ = _
    rw [grow_app f t Y]; rfl
theorem gx_take {β : Type} (f : St → List β → β) (d : β) {X : List St} {i j : Nat} (hj : j < i) (hi : i ≤ X.length) : (G f (X.take i)).getD j d = gx f d X j := by
  have hl := G_length f hi
  have e : G f X = grow f (X.drop i) (G f (X.take i)) := by
    unfold G
    rw [← grow_app, List.take_append_drop]
  obtain ⟨r, hr⟩ := grow_pre f (X.drop i) (G f (X.take i))
  unfold gx
  rw [e, hr, List.getD_eq_getElem?_getD, List.getD_eq_getElem?_getD, List.getElem?_append_left (by omega)]
theorem gx_eq {β : Type} (f : St → List β → β) (d : β) {X : List St} {i : Nat} (h : i < X.length) : gx f d X i = f (X.getD i st0) (G f (X.take i)) := by
  rw [← gx_take f d (Nat.lt_succ_self i) h, G_last f d h]
/-! ### The tree -/
def treeS (o : St) (ts : List Iv) : Iv :=
  if o.k = 1 then some (65, Value.agg #[Value.int .u64 (hi o.v), Value.int .u64 (lo o.v)])
  else if o.k = 2 then some (23, Value.agg #[Value.int .i64 o.a])
  else if o.k = 3 then some (31, Value.agg #[anyV (ts.getD o.a.toNat none), anyV (ts.getD o.b.toNat none)])
  else some (26, Value.agg #[anyV (ts.getD o.a.toNat none), anyV (ts.getD o.b.toNat none)])
theorem tree_l6 {L vars : Int} (X : List St) (hX : X.length ≤ 1000000) (n : Nat) (hn : X.length = n + 1) (ok : OkS L vars X X.length) :
    ∀ (d j : Nat), j + d = n + 1 → Ev (fun q => expr_Tree.l6 q (X.map toP) ((X.length : Nat) : Int) (j : Int) (G treeS (X.take j))) (gx treeS none X n, 0) := by
  intro d
  induction d with
  | zero =>
    intro j hj
    have : j = n + 1 := by omega
    subst this
    have hl := G_length treeS (X := X) (i := n + 1) (by omega)
    have e : wrap64 ((((G treeS (X.take (n + 1))).length : Nat) : Int) - 1) = (n : Int) := by
      rw [hl, w64_id (by omega) (by omega)]; omega
    refine Ev.step (fun q => by rw [expr_Tree.l6]) (Ev.neg (by omega) ?_)
    simp only [e]
    refine Ev.pos (Int.natCast_nonneg _) (Ev.pos (by rw [hl]; omega) (Ev.ret' ?_))
    rw [Int.toNat_natCast, gx_take treeS none (Nat.lt_succ_self n) (by omega)]
  | succ d ih =>
    intro j hj
    have hj' : j < X.length := by omega
    have hl := G_length treeS (X := X) (i := j) (by omega)
    have hih := ih (j + 1) (by omega)
    rw [G_succ treeS hj'] at hih
    have hok := err_zero (ok j hj')
    rw [G_length degS (by omega)] at hok
    have fin : ∀ x : Iv, x = treeS (X.getD j st0) (G treeS (X.take j)) → Ev (fun q => expr_Tree.j18 q x (X.map toP) ((X.length : Nat) : Int) (j : Int) (G treeS (X.take j))) (gx treeS none X n, 0) := by
      intro x hx
      refine Ev.step (fun q => by rw [expr_Tree.j18]) (Ev.pos (by rw [hl, List.length_singleton]; omega) ?_)
      rw [w64_succ hj' (show X.length ≤ 4611686018427387904 by omega), hx]
      exact hih
    refine Ev.step (fun q => by rw [expr_Tree.l6]) (Ev.pos (by omega) (Ev.pos (Int.natCast_nonneg _) (Ev.pos (by rw [List.length_map]; omega) ?_)))
    simp only [rdP]
    clear hih ih
    generalize G treeS (X.take j) = ts at *
    generalize X.getD j st0 = o at *
    have hk := form_kind hok.1
    by_cases k1 : o.k = 1
    · refine Ev.pos k1 (fin _ ?_)
      unfold treeS; rw [if_pos k1]
    refine Ev.neg k1 ?_
    by_cases k2 : o.k = 2
    · refine Ev.pos k2 (fin _ ?_)
      unfold treeS; rw [if_neg k1, if_pos k2]
    refine Ev.neg k2 ?_
    have ha := form_ahead hok.1 (by omega)
    unfold AheadS at ha
    by_cases k3 : o.k = 3
    · refine Ev.pos k3 (Ev.pos ha.1 (Ev.pos (by rw [hl]; exact ha.2.1) (Ev.pos ha.2.2.1 (Ev.pos (by rw [hl]; exact ha.2.2.2) (fin _ ?_)))))
      unfold treeS; rw [if_neg k1, if_neg k2, if_pos k3]
    · refine Ev.neg k3 (Ev.pos (by omega) (Ev.pos ha.1 (Ev.pos (by rw [hl]; exact ha.2.1) (Ev.pos ha.2.2.1 (Ev.pos (by rw [hl]; exact ha.2.2.2) (fin _ ?_))))))
      unfold treeS; rw [if_neg k1, if_neg k2, if_neg k3]
theorem Tree_ev (X : List St) : Ev (fun q => expr_Tree.f q (X.map toP)) (if (checkS 7 9223372036854775807 X).2 = 0 then (gx treeS none X (X.length - 1), 0) else (none, (checkS 7 9223372036854775807 X).2)) := by
  unfold expr_Tree.f
  rw [List.length_map]
  refine Ev.bnd (Check_ev _ _ X) ?_
  by_cases c : (checkS 7 9223372036854775807 X).2 = 0
  · have hr : (if (checkS 7 9223372036854775807 X).2 = 0 then (gx treeS none X (X.length - 1), (0 : Int)) else (none, (checkS 7 9223372036854775807 X).2)) = _ := if_pos c
    rw [hr]
    obtain ⟨_, _, h0, h2, ok, _⟩ := check_ok c
    exact Ev.pos c (tree_l6 X (by omega) (X.length - 1) (by omega) ok (X.length - 1 + 1) 0 (by omega))
  · have hr : (if (checkS 7 9223372036854775807 X).2 = 0 then (gx treeS none X (X.length - 1), (0 : Int)) else (none, (checkS 7 9223372036854775807 X).2)) = _ := if_neg c
    rw [hr]
    exact Ev.neg c (Ev.ret _)
/-! ### How long it is -/
def unS (o : St) (us : List Nat) : Nat := if o.k > 2 then 1 + us.getD o.a.toNat 0 + us.getD o.b.toNat 0 else 1
def lgS (o : St) (ls : List Int) : Int := if o.k > 2 then (if 1 + rdI ls o.a + rdI ls o.b > 201 then 201 else 1 + rdI ls o.a + rdI ls o.b) else 1
theorem long_l3 {L vars : Int} (X : List St) (n : Nat) (hn : n < X.length) (hX : X.length ≤ 1000000) (ok : OkS L vars X X.length) (hs : ∀ j, j ≤ X.length → ∀ y ∈ G lgS (X.take j), 0 ≤ y ∧ y ≤ 201) :
    ∀ (d j : Nat), j + d = n + 1 → Ev (fun q => steepleref16_Long.l3 q (X.map toD) (n : Int) (j : Int) (G lgS (X.take j))) (gx lgS 0 X n) := by
  intro d
  induction d with
  | zero =>
    intro j hj
    have : j = n + 1 := by omega
    subst this
    refine Ev.step (fun q => by rw [steepleref16_Long.l3]) (Ev.neg (by omega) (Ev.pos (Int.natCast_nonneg _) (Ev.pos (by rw [G_length lgS (by omega)]; omega) (Ev.ret' ?_))))
    unfold rdI
    rw [Int.toNat_natCast, gx_take lgS 0 (Nat.lt_succ_self n) (by omega)]
  | succ d ih =>
    intro j hj
    have hj' : j < X.length := by omega
    have hl := G_length lgS (X := X) (i := j) (by omega)
    have hih := ih (j + 1) (by omega)
    rw [G_succ lgS hj'] at hih
    have hok := err_zero (ok j hj')
    rw [G_length degS (by omega)] at hok
    have hsm := hs j (by omega)
    have fin : ∀ v : Int, v = lgS (X.getD j st0) (G lgS (X.take j)) → Ev (fun q => steepleref16_Long.j10 q (X.map toD) (n : Int) (j : Int) v (G lgS (X.take j))) (gx lgS 0 X n) := by
      intro v hv
      refine Ev.step (fun q => by rw [steepleref16_Long.j10]) (Ev.pos (by rw [hl, List.length_singleton]; omega) (Ev.step (fun q => by rw [steepleref16_Long.j4]) ?_))
      rw [w64_succ hj' (show X.length ≤ 4611686018427387904 by omega), hv]
      exact hih
    have hmp : (j : Int) < ((X.map toD).length : Int) := by rw [List.length_map]; omega
    refine Ev.step (fun q => by rw [steepleref16_Long.l3]) (Ev.pos (by omega) (Ev.pos (Int.natCast_nonneg _) (Ev.pos hmp ?_)))
    simp only [rdD]
    clear hih ih
    generalize G lgS (X.take j) = ls at *
    generalize X.getD j st0 = o at *
    by_cases k2 : o.k > 2
    · have ha := form_ahead hok.1 k2
      unfold AheadS at ha
      have rb : ∀ i : Int, 0 ≤ rdI ls i ∧ rdI ls i ≤ 201 := by
        intro i
        unfold rdI; rw [List.getD_eq_getElem?_getD]
        cases e : ls[i.toNat]? with
        | none => exact ⟨by decide, by decide⟩
        | some d => exact hsm d (List.mem_of_getElem? e)
      have r1 := rb o.a
      have r2 := rb o.b
      have ew : wrap64 (wrap64 (1 + rdI ls o.a) + rdI ls o.b) = 1 + rdI ls o.a + rdI ls o.b := by
        rw [w64_id (x := 1 + rdI ls o.a) (by omega) (by omega), w64_id (by omega) (by omega)]
      refine Ev.pos k2 (Ev.pos (Int.natCast_nonneg _) (Ev.pos hmp (Ev.pos ha.1 (Ev.pos (by rw [hl]; exact ha.2.1) (Ev.pos (Int.natCast_nonneg _) (Ev.pos hmp (Ev.pos ha.2.2.1 (Ev.pos (by rw [hl]; exact ha.2.2.2) ?_))))))))
      simp only [ew]
      by_cases g : 1 + rdI ls o.a + rdI ls o.b > 201
      · refine Ev.pos g (fin _ ?_)
        unfold lgS; rw [if_pos k2, if_pos g]
      · refine Ev.neg g (fin _ ?_)
        unfold lgS; rw [if_pos k2, if_neg g]
    · refine Ev.neg k2 (fin _ ?_)
      unfold lgS; rw [if_neg k2]
theorem lg_small {L vars : Int} {X : List St} (ok : OkS L vars X X.length) : ∀ j, j ≤ X.length → ∀ y ∈ G lgS (X.take j), 0 ≤ y ∧ y ≤ 201 := by
  refine G_mem lgS (fun y => 0 ≤ y ∧ y ≤ 201) (Nat.le_refl _) fun i hi h => ?_
  have rb : ∀ k : Int, 0 ≤ rdI (G lgS (X.take i)) k ∧ rdI (G lgS (X.take i)) k ≤ 201 := by
    intro k
    unfold rdI; rw [List.getD_eq_getElem?_getD]
    cases e : (G lgS (X.take i))[k.toNat]? with
    | none => exact ⟨by decide, by decide⟩
    | some d => exact h d (List.mem_of_getElem? e)
  have r1 := rb (X.getD i st0).a
  have r2 := rb (X.getD i st0).b
  generalize G lgS (X.take i) = ls at *
  unfold lgS
  split
  · split <;> omega
  · omega
theorem Long_ev {L vars : Int} (X : List St) (n : Nat) (hn : n < X.length) (hX : X.length ≤ 1000000) (ok : OkS L vars X X.length) : Ev (fun q => steepleref16_Long.f q (X.map toD) (n : Int)) (gx lgS 0 X n) := by
  unfold steepleref16_Long.f
  exact long_l3 X n hn hX ok (lg_small ok) (n + 1) 0 (by omega)
/-- A step's form, told by numbers. -/
theorem step_form {L vars : Int} {X : List St} (ok : OkS L vars X X.length) {i : Nat} (h : i < X.length) : ¬ (X.getD i st0).k > 2 ∨ ((X.getD i st0).k = 3 ∨ (X.getD i st0).k = 4) ∧ (X.getD i st0).v = 0 ∧ ∃ a b : Nat, a < i ∧ b < i ∧ (X.getD i st0).a = (a : Int) ∧ (X.getD i st0).b = (b : Int) := by
  have hok := err_zero (ok i h)
  rw [G_length degS (by omega)] at hok
  by_cases k2 : (X.getD i st0).k > 2
  · right
    have ha := form_ahead hok.1 k2
    unfold AheadS at ha
    rcases hok.1 with g | g | g
    · omega
    · omega
    · exact ⟨g.1, g.2.1, (X.getD i st0).a.toNat, (X.getD i st0).b.toNat, by omega, by omega, by omega, by omega⟩
  · exact Or.inl k2
theorem un_leaf {X : List St} {i : Nat} (h : i < X.length) (hk : ¬ (X.getD i st0).k > 2) : gx unS 0 X i = 1 := by
  rw [gx_eq unS 0 h]; unfold unS; rw [if_neg hk]
theorem un_pair {X : List St} {i a b : Nat} (h : i < X.length) (hk : (X.getD i st0).k > 2) (ha : a < i) (hb : b < i) (ea : (X.getD i st0).a = (a : Int)) (eb : (X.getD i st0).b = (b : Int)) : gx unS 0 X i = 1 + gx unS 0 X a + gx unS 0 X b := by
  rw [gx_eq unS 0 h, ← gx_take unS 0 ha (Nat.le_of_lt h), ← gx_take unS 0 hb (Nat.le_of_lt h)]
  unfold unS; rw [if_pos hk, ea, eb, Int.toNat_natCast, Int.toNat_natCast]
/-- The document's count is capped. -/
theorem lg_un {L vars : Int} {X : List St} (ok : OkS L vars X X.length) : ∀ i, i < X.length → 1 ≤ gx unS 0 X i ∧ gx lgS 0 X i = if gx unS 0 X i > 201 then 201 else ((gx unS 0 X i : Nat) : Int) := by
  intro i
  induction i using Nat.strongRecOn with
  | ind i ih =>
  intro h
  have e := gx_eq lgS 0 h
  rcases step_form ok h with hk | ⟨hk, _, a, b, ha, hb, ea, eb⟩
  · rw [un_leaf h hk, e]
    unfold lgS; rw [if_neg hk]
    exact ⟨by decide, by decide⟩
  · have h2 : (X.getD i st0).k > 2 := by omega
    obtain ⟨a1, a2⟩ := ih a ha (by omega)
    obtain ⟨b1, b2⟩ := ih b hb (by omega)
    rw [un_pair h h2 ha hb ea eb, e]
    have ra : rdI (G lgS (X.take i)) (a : Int) = gx lgS 0 X a := by unfold rdI; rw [Int.toNat_natCast]; exact gx_take lgS 0 ha (Nat.le_of_lt h)
    have rb : rdI (G lgS (X.take i)) (b : Int) = gx lgS 0 X b := by unfold rdI; rw [Int.toNat_natCast]; exact gx_take lgS 0 hb (Nat.le_of_lt h)
    refine ⟨by omega, ?_⟩
    generalize G lgS (X.take i) = ls at *
    unfold lgS
    rw [if_pos h2, ea, eb, ra, rb, a2, b2]
    generalize gx unS 0 X a = u at *
    generalize gx unS 0 X b = v at *
    split <;> split <;> split <;> split <;> omega
/-! ### Its steps, flat -/
def putS (o : St) (ps : List (Nat → List St)) (m : Nat) : List St :=
  if o.k > 2 then ps.getD o.a.toNat (fun _ => []) m ++ (ps.getD o.b.toNat (fun _ => []) (m + (ps.getD o.a.toNat (fun _ => []) m).length) ++
      [⟨o.k, ((m + (ps.getD o.a.toNat (fun _ => []) m).length : Nat) : Int) - 1, ((m + (ps.getD o.a.toNat (fun _ => []) m).length + (ps.getD o.b.toNat (fun _ => []) (m + (ps.getD o.a.toNat (fun _ => []) m).length)).length : Nat) : Int) - 1, o.v⟩])
  else [o]
abbrev pt (X : List St) (i : Nat) : Nat → List St := gx putS (fun _ => []) X i
abbrev U (X : List St) (i : Nat) : Nat := gx unS 0 X i
theorem pt_leaf {X : List St} {i m : Nat} (h : i < X.length) (hk : ¬ (X.getD i st0).k > 2) : pt X i m = [X.getD i st0] := by
  unfold pt
  rw [gx_eq putS _ h]; unfold putS; rw [if_neg hk]
theorem pt_pair0 {X : List St} {i a b m : Nat} (h : i < X.length) (hk : (X.getD i st0).k > 2) (ha : a < i) (hb : b < i) (ea : (X.getD i st0).a = (a : Int)) (eb : (X.getD i st0).b = (b : Int)) :
    pt X i m = pt X a m ++ (pt X b (m + (pt X a m).length) ++ [⟨(X.getD i st0).k, ((m + (pt X a m).length : Nat) : Int) - 1, ((m + (pt X a m).length + (pt X b (m + (pt X a m).length)).length : Nat) : Int) - 1, (X.getD i st0).v⟩]) := by
  unfold pt
  rw [gx_eq putS _ h, ← gx_take putS (fun _ => []) ha (Nat.le_of_lt h), ← gx_take putS (fun _ => []) hb (Nat.le_of_lt h)]
  unfold putS
  rw [if_pos hk, ea, eb, Int.toNat_natCast, Int.toNat_natCast]
theorem pt_len {L vars : Int} {X : List St} (ok : OkS L vars X X.length) : ∀ i, i < X.length → ∀ m, (pt X i m).length = U X i := by
  intro i
  induction i using Nat.strongRecOn with
  | ind i ih =>
  intro h m
  rcases step_form ok h with hk | ⟨hk, _, a, b, ha, hb, ea, eb⟩
  · rw [pt_leaf h hk]; exact (un_leaf h hk).symm
  · have h2 : (X.getD i st0).k > 2 := by omega
    have hu : U X i = 1 + U X a + U X b := un_pair h h2 ha hb ea eb
    rw [pt_pair0 h h2 ha hb ea eb, hu, List.length_append, List.length_append, ih a ha (by omega), ih b hb (by omega), List.length_singleton]
    omega
theorem pt_pair {L vars : Int} {X : List St} (ok : OkS L vars X X.length) {i a b m : Nat} (h : i < X.length) (hk : (X.getD i st0).k > 2) (ha : a < i) (hb : b < i) (ea : (X.getD i st0).a = (a : Int)) (eb : (X.getD i st0).b = (b : Int)) :
    pt X i m = pt X a m ++ (pt X b (m + U X a) ++ [⟨(X.getD i st0).k, ((m + U X a : Nat) : Int) - 1, ((m + U X a + U X b : Nat) : Int) - 1, (X.getD i st0).v⟩]) := by
  rw [pt_pair0 h hk ha hb ea eb, pt_len ok a (by omega), pt_len ok b (by omega)]
/-- The document lays a tree so. -/
theorem Put_ev {L vars : Int} (X : List St) (hX : X.length ≤ 1000000) (ok : OkS L vars X X.length) : ∀ i, i < X.length → ∀ to : List St, to.length + U X i ≤ 1000000 → Ev (fun q => steepleref16_Put.f q (X.map toD) (i : Int) (to.map toD)) ((to ++ pt X i to.length).map toD) := by
  intro i
  induction i using Nat.strongRecOn with
  | ind i ih =>
  intro h to hto
  refine Ev.step (fun q => by rw [steepleref16_Put.f]) (Ev.pos (Int.natCast_nonneg _) (Ev.pos (by rw [List.length_map]; omega) ?_))
  simp only [rdD]
  rcases step_form ok h with hk | ⟨hk, _, a, b, ha, hb, ea, eb⟩
  · refine Ev.neg hk (Ev.pos (by rw [List.length_map, List.length_singleton]; omega) (Ev.ret' ?_))
    rw [pt_leaf h hk, List.map_append]; rfl
  · have h2 : (X.getD i st0).k > 2 := by omega
    have hu' : U X i = 1 + U X a + U X b := un_pair h h2 ha hb ea eb
    have ha1 : 1 ≤ U X a := (lg_un ok a (by omega)).1
    have hb1 : 1 ≤ U X b := (lg_un ok b (by omega)).1
    have e1 : (to ++ pt X a to.length).length = to.length + U X a := by rw [List.length_append, pt_len ok a (by omega)]
    have e2 : (to ++ pt X a to.length ++ pt X b (to.length + U X a)).length = to.length + U X a + U X b := by rw [List.length_append, e1, pt_len ok b (by omega)]
    refine Ev.pos h2 ?_
    rw [ea, eb]
    refine Ev.bnd (ih a ha (by omega) to (by omega)) (Ev.bnd (ih b hb (by omega) (to ++ pt X a to.length) (by rw [e1]; omega)) ?_)
    simp only [List.length_map, e1, e2, List.length_singleton]
    rw [w64_id (by omega) (by omega), w64_id (by omega) (by omega)]
    refine Ev.pos (by omega) (Ev.ret' ?_)
    rw [pt_pair ok h h2 ha hb ea eb, List.map_append, List.map_append, List.map_append, List.map_append, List.map_append, List.append_assoc, List.append_assoc]
    rfl
theorem same_l4 (Y : List St) (hY : Y.length ≤ 1000000) : ∀ (d j : Nat), j + d = Y.length → Ev (fun q => steeplelaw16_same.l4 q (Y.map toD) (Y.map toD) (j : Int)) true := by
  intro d
  induction d with
  | zero =>
    intro j hj
    exact Ev.step (fun q => by rw [steeplelaw16_same.l4]) (Ev.neg (by rw [List.length_map]; omega) (Ev.ret _))
  | succ d ih =>
    intro j hj
    have hj' : j < Y.length := by omega
    have hm : (j : Int) < ((Y.map toD).length : Int) := by rw [List.length_map]; omega
    refine Ev.step (fun q => by rw [steeplelaw16_same.l4]) (Ev.pos hm (Ev.pos (Int.natCast_nonneg _) (Ev.pos hm (Ev.pos (Int.natCast_nonneg _) (Ev.pos hm (Ev.pos (by exact ⟨rfl, rfl, rfl, rfl, rfl⟩) ?_))))))
    rw [w64_succ hj' (show Y.length ≤ 4611686018427387904 by omega)]
    exact ih (j + 1) (by omega)
theorem same_ev (Y : List St) (hY : Y.length ≤ 1000000) : Ev (fun q => steeplelaw16_same.f q (Y.map toD) (Y.map toD)) true := by
  unfold steeplelaw16_same.f
  exact Ev.pos rfl (same_l4 Y hY Y.length 0 (by omega))
theorem Ev.at {α : Type} {g : Nat → Option α} {r : α} (K : Nat) (h : ∀ k, g (k + K) = some r) : Ev g r := ⟨K, fun k hk => by
  have := h (k - K)
  rwa [Nat.sub_add_cancel hk] at this⟩
theorem awake16_ev : Ev (fun k => steeplelaw16_awake.f k) true := Ev.at 60 fun k => by kernel_rfl
end Go.Proofs.Ytlamlgfngpmhgaa.Sp
namespace Go.Proofs.Ytlamlgfngpmhgaa.Sp
open Go.Proofs.Ytlamlgfngpmhgaa.V.B Go.RowKit Go.Proofs.Ytlamlgfngpmhgaa.B Go.Proofs.Ytlamlgfngpmhgaa.V.B.Ar Go.Proofs.Ytlamlgfngpmhgaa.V.B.Tw
set_option linter.unusedVariables false
set_option linter.unusedSimpArgs false
abbrev Wk := S55
theorem un_var (x : Int) : unSt B.E 0 (Value.agg #[Value.int .i64 x]) = some (⟨x⟩ : S23) := rfl
theorem un_const (x y : Int) : unSt B.E 5 (Value.agg #[Value.int .u64 x, Value.int .u64 y]) = some (⟨⟨x, y⟩⟩ : S65) := rfl
theorem un_sum (x y : Iv) : unSt B.E 6 (Value.agg #[anyV x, anyV y]) = some (⟨x, y⟩ : S31) := by
  rcases x with _ | ⟨a, b⟩ <;> rcases y with _ | ⟨c, d⟩ <;> rfl
theorem un_prod (x y : Iv) : unSt B.E 1 (Value.agg #[anyV x, anyV y]) = some (⟨x, y⟩ : S26) := by
  rcases x with _ | ⟨a, b⟩ <;> rcases y with _ | ⟨c, d⟩ <;> rfl
theorem isT_same (t : Nat) (v : Value) : isT t (some (t, v)) = some v := by
  show (match Nat.beq t t with | true => some v | false => none) = some v
  rw [Nat.beq_refl]
def wk (l : List St) (ds : List Int) : Wk := ⟨l.map toP, ds, 0, false⟩
theorem put_ok (l : List St) (ds : List Int) (o : St) (d : Int) (hl : l.length = ds.length) (hm : ds.length < 200) (hd : d ≤ 8) :
    Ev (fun q => expr_walk_put.f q (wk l ds) (toP o) d) (wk (l ++ [o]) (ds ++ [d]), (ds.length : Int)) := by
  unfold expr_walk_put.f wk
  refine Ev.neg (by rw [List.length_map]; omega) (Ev.neg (by omega) (Ev.pos (by rw [List.length_map, List.length_singleton]; omega) (Ev.pos (by show ds.length + 1 ≤ _; omega) (Ev.ret' ?_))))
  rw [List.length_append, List.length_map, List.length_singleton, hl, w64_id (by omega) (by omega), List.map_append]
  exact Prod.ext rfl (by show (_ : Int) = _; omega)
theorem put_full (w : Wk) (o : S36) (d : Int) (hm : 200 ≤ w.f0.length) : Ev (fun q => expr_walk_put.f q w o d) (⟨w.f0, w.f1, w.f2, true⟩, 0) := by
  unfold expr_walk_put.f
  exact Ev.pos (by omega) (Ev.ret _)
theorem node_long (w : Wk) (t : Iv) (h : w.f3 = true) : Ev (fun q => expr_walk_node.f q w t) (w, 0) :=
  Ev.step (fun q => by rw [expr_walk_node.f]) (Ev.pos h (Ev.ret _))
/-- Steps are laid behind others, so many, the last one's degree d; or there is no room. -/
def Lays (g : Nat → Wk → Option (Wk × Int)) (u : Nat) (p : Nat → List St) (d : Int) : Prop := ∀ (l : List St) (ds : List Int), l.length = ds.length → ds.length ≤ 200 →
  (ds.length + u ≤ 200 → ∃ r : List Int, r.length = u ∧ r.getD (u - 1) 0 = d ∧ Ev (fun q => g q (wk l ds)) (wk (l ++ p ds.length) (ds ++ r), ((ds.length + u : Nat) : Int) - 1)) ∧
  (200 < ds.length + u → ∃ (w : Wk) (x : Int), w.f3 = true ∧ Ev (fun q => g q (wk l ds)) (w, x))
theorem lays_put (o : St) (d : Int) (hd : d ≤ 8) {g : Nat → Wk → Option (Wk × Int)} (hg : ∀ l ds r, l.length = ds.length → Ev (fun q => expr_walk_put.f q (wk l ds) (toP o) d) r → Ev (fun q => g q (wk l ds)) r) : Lays g 1 (fun _ => [o]) d := by
  intro l ds hl hm
  refine ⟨fun h => ⟨[d], rfl, rfl, hg _ _ _ hl ?_⟩, fun h => ⟨_, _, ?_, hg _ _ _ hl (put_full _ _ _ ?_)⟩⟩
  · have := put_ok l ds o d hl (by omega) hd
    rwa [show ((ds.length + 1 : Nat) : Int) - 1 = (ds.length : Int) by omega]
  · rfl
  · show 200 ≤ (l.map toP).length
    rw [List.length_map]; omega
theorem getD_mid {l r s : List Int} {u : Nat} (hr : r.length = u) (h0 : 1 ≤ u) : rdI (l ++ (r ++ s)) (((l.length + u : Nat) : Int) - 1) = r.getD (u - 1) 0 := by
  unfold rdI
  rw [show (((l.length + u : Nat) : Int) - 1).toNat = l.length + (u - 1) by omega, List.getD_eq_getElem?_getD, List.getElem?_append_right (by omega), Nat.add_sub_cancel_left, List.getElem?_append_left (by omega), ← List.getD_eq_getElem?_getD]
theorem pair_lays (kk : Int) (ta tb : Iv) (ua ub : Nat) (pa pb : Nat → List St) (da db : Int) (hka : 1 ≤ ua) (hkb : 1 ≤ ub) (hpa : ∀ m, (pa m).length = ua) (hpb : ∀ m, (pb m).length = ub)
    (ha : Lays (fun q w => expr_walk_node.f q w ta) ua pa da) (hb : Lays (fun q w => expr_walk_node.f q w tb) ub pb db) (bd : 0 ≤ da ∧ da ≤ 8 ∧ 0 ≤ db ∧ db ≤ 8) (h8 : (if kk = 4 then da + db else mx da db) ≤ 8) :
    Lays (fun q w => expr_walk_pair.f q w kk ta tb) (1 + ua + ub) (fun m => pa m ++ (pb (m + ua) ++ [⟨kk, ((m + ua : Nat) : Int) - 1, ((m + ua + ub : Nat) : Int) - 1, 0⟩])) (if kk = 4 then da + db else mx da db) := by
  intro l ds hl hm
  obtain ⟨a1, a2⟩ := ha l ds hl hm
  have e0 : (⟨kk, ((ds.length + ua : Nat) : Int) - 1, ((ds.length + ua + ub : Nat) : Int) - 1, (⟨0, 0⟩ : S34)⟩ : S36) = toP ⟨kk, ((ds.length + ua : Nat) : Int) - 1, ((ds.length + ua + ub : Nat) : Int) - 1, 0⟩ := by
    show _ = (⟨_, _, _, toS 0⟩ : S36)
    rw [toS_zero]; rfl
  by_cases ca : ds.length + ua ≤ 200
  · obtain ⟨ra, q1, q2, q3⟩ := a1 ca
    have hl1 : (l ++ pa ds.length).length = (ds ++ ra).length := by rw [List.length_append, List.length_append, hpa, q1, hl]
    have hd1 : (ds ++ ra).length = ds.length + ua := by rw [List.length_append, q1]
    obtain ⟨b1, b2⟩ := hb (l ++ pa ds.length) (ds ++ ra) hl1 (by omega)
    rw [hd1] at b1 b2
    by_cases cb : ds.length + ua + ub ≤ 200
    · obtain ⟨rb, s1, s2, s3⟩ := b1 cb
      have hd2 : (ds ++ ra ++ rb).length = ds.length + ua + ub := by rw [List.length_append, hd1, s1]
      have hl2 : (l ++ pa ds.length ++ pb (ds.length + ua)).length = (ds ++ ra ++ rb).length := by rw [hd2, List.length_append, hl1, hpb, hd1]
      have x1 : rdI (ds ++ ra ++ rb) (((ds.length + ua : Nat) : Int) - 1) = da := by rw [List.append_assoc, getD_mid q1 hka, q2]
      have x2 : rdI (ds ++ ra ++ rb) (((ds.length + ua + ub : Nat) : Int) - 1) = db := by
        have := getD_mid (l := ds ++ ra) (r := rb) (s := []) s1 hkb
        rw [List.append_nil, hd1] at this
        rw [this, s2]
      have head : ∀ r, Ev (fun q => expr_walk_put.f q (wk (l ++ pa ds.length ++ pb (ds.length + ua)) (ds ++ ra ++ rb)) (toP ⟨kk, ((ds.length + ua : Nat) : Int) - 1, ((ds.length + ua + ub : Nat) : Int) - 1, 0⟩) (if kk = 4 then da + db else mx da db)) r →
          Ev (fun q => expr_walk_pair.f q (wk l ds) kk ta tb) r := by
        intro r hr
        refine Ev.step (fun q => by rw [expr_walk_pair.f]) (Ev.bnd q3 (Ev.bnd s3 (Ev.neg (by show ¬ (false = true); decide) ?_)))
        show Ev (fun q => if 0 ≤ ((ds.length + ua : Nat) : Int) - 1 then (if ((ds.length + ua : Nat) : Int) - 1 < ((ds ++ ra ++ rb).length : Int) then (if 0 ≤ ((ds.length + ua + ub : Nat) : Int) - 1 then (if ((ds.length + ua + ub : Nat) : Int) - 1 < ((ds ++ ra ++ rb).length : Int) then _ else none) else none) else none) else none) r
        have i1 : 0 ≤ ((ds.length + ua : Nat) : Int) - 1 := by omega
        have i2 : ((ds.length + ua : Nat) : Int) - 1 < ((ds ++ ra ++ rb).length : Int) := by rw [hd2]; omega
        have i3 : 0 ≤ ((ds.length + ua + ub : Nat) : Int) - 1 := by omega
        have i4 : ((ds.length + ua + ub : Nat) : Int) - 1 < ((ds ++ ra ++ rb).length : Int) := by rw [hd2]; omega
        refine Ev.pos i1 (Ev.pos i2 (Ev.pos i3 (Ev.pos i4 ?_)))
        by_cases k4 : kk = 4
        · refine Ev.pos k4 (Ev.pos i1 (Ev.pos i2 (Ev.pos i3 (Ev.pos i4 ?_))))
          show Ev (fun q => (expr_walk_put.f q (wk (l ++ pa ds.length ++ pb (ds.length + ua)) (ds ++ ra ++ rb)) _ (wrap64 (rdI (ds ++ ra ++ rb) (((ds.length + ua : Nat) : Int) - 1) + rdI (ds ++ ra ++ rb) (((ds.length + ua + ub : Nat) : Int) - 1)))).bind _) r
          rw [x1, x2, w64_id (by omega) (by omega), e0]
          rw [if_pos k4] at hr
          exact Ev.bnd hr (Ev.ret _)
        · refine Ev.neg k4 ?_
          show Ev (fun q => (expr_walk_put.f q (wk (l ++ pa ds.length ++ pb (ds.length + ua)) (ds ++ ra ++ rb)) _ (if rdI (ds ++ ra ++ rb) (((ds.length + ua + ub : Nat) : Int) - 1) > rdI (ds ++ ra ++ rb) (((ds.length + ua : Nat) : Int) - 1) then rdI (ds ++ ra ++ rb) (((ds.length + ua + ub : Nat) : Int) - 1) else rdI (ds ++ ra ++ rb) (((ds.length + ua : Nat) : Int) - 1))).bind _) r
          rw [x1, x2, e0]
          rw [if_neg k4] at hr
          exact Ev.bnd hr (Ev.ret _)
      refine ⟨fun h => ⟨ra ++ (rb ++ [if kk = 4 then da + db else mx da db]), ?_, ?_, ?_⟩, fun h => ⟨_, _, ?_, head _ (put_full _ _ _ ?_)⟩⟩
      · rw [List.length_append, List.length_append, q1, s1, List.length_singleton]; omega
      · rw [← List.append_assoc, List.getD_eq_getElem?_getD, List.getElem?_append_right (by rw [List.length_append, q1, s1]; omega), List.length_append, q1, s1, show 1 + ua + ub - 1 - (ua + ub) = 0 by omega]
        rfl
      · have := head _ (put_ok (l ++ pa ds.length ++ pb (ds.length + ua)) (ds ++ ra ++ rb) ⟨kk, ((ds.length + ua : Nat) : Int) - 1, ((ds.length + ua + ub : Nat) : Int) - 1, 0⟩ _ hl2 (by omega) h8)
        rw [hd2] at this
        rw [show ((ds.length + (1 + ua + ub) : Nat) : Int) - 1 = ((ds.length + ua + ub : Nat) : Int) by omega]
        simp only [List.append_assoc] at this ⊢
        exact this
      · rfl
      · show 200 ≤ (List.map toP _).length
        rw [List.length_map, hl2, hd2]; omega
    · obtain ⟨w, x, s1, s2⟩ := b2 (by omega)
      refine ⟨fun h => absurd h (by omega), fun h => ⟨w, 0, s1, ?_⟩⟩
      show Ev (fun q => expr_walk_pair.f q (wk l ds) kk ta tb) _
      refine Ev.step (fun q => by rw [expr_walk_pair.f]) ?_
      exact Ev.bnd q3 (Ev.bnd s2 (Ev.pos s1 (Ev.ret _)))
  · obtain ⟨w, x, s1, s2⟩ := a2 (by omega)
    refine ⟨fun h => absurd h (by omega), fun h => ⟨w, 0, s1, ?_⟩⟩
    show Ev (fun q => expr_walk_pair.f q (wk l ds) kk ta tb) _
    refine Ev.step (fun q => by rw [expr_walk_pair.f]) ?_
    exact Ev.bnd s2 (Ev.bnd (node_long w tb s1) (Ev.pos s1 (Ev.ret _)))
theorem Lays.of {g g' : Nat → Wk → Option (Wk × Int)} {u : Nat} {p : Nat → List St} {d : Int} (h : Lays g u p d) (hg : ∀ l ds r, Ev (fun q => g q (wk l ds)) r → Ev (fun q => g' q (wk l ds)) r) : Lays g' u p d := by
  intro l ds hl hm
  obtain ⟨h1, h2⟩ := h l ds hl hm
  refine ⟨fun c => ?_, fun c => ?_⟩
  · obtain ⟨r, e1, e2, e3⟩ := h1 c
    exact ⟨r, e1, e2, hg _ _ _ e3⟩
  · obtain ⟨w, x, e1, e2⟩ := h2 c
    exact ⟨w, x, e1, hg _ _ _ e2⟩
theorem node_var {n : Int} (hn : 0 ≤ n) {l : List St} {ds : List Int} {r : Wk × Int} (h : Ev (fun q => expr_walk_put.f q (wk l ds) (toP ⟨2, n, 0, 0⟩) 1) r) : Ev (fun q => expr_walk_node.f q (wk l ds) (some (23, Value.agg #[Value.int .i64 n]))) r := by
  have e0 : (⟨2, n, 0, (⟨0, 0⟩ : S34)⟩ : S36) = toP ⟨2, n, 0, 0⟩ := by
    show _ = (⟨_, _, _, toS 0⟩ : S36)
    rw [toS_zero]; rfl
  refine Ev.step (fun q => by rw [expr_walk_node.f]) (Ev.neg (by show ¬ (false = true); decide) ?_)
  simp only [isT_same, un_var]
  refine Ev.bnd (Ev.ret _) ?_
  refine Ev.neg (show ¬ n < 0 by omega) ?_
  show Ev (fun q => (expr_walk_put.f q (wk l ds) (⟨2, n, 0, (⟨0, 0⟩ : S34)⟩ : S36) 1).bind _) r
  rw [e0]
  exact Ev.bnd h (Ev.ret _)
theorem node_const (v : E) {l : List St} {ds : List Int} {r : Wk × Int} (h : Ev (fun q => expr_walk_put.f q (wk l ds) (toP ⟨1, 0, 0, v⟩) 0) r) : Ev (fun q => expr_walk_node.f q (wk l ds) (some (65, Value.agg #[Value.int .u64 (hi v), Value.int .u64 (lo v)]))) r := by
  have t1 : ∀ v, isT 23 (some (65, v)) = none := fun _ => rfl
  refine Ev.step (fun q => by rw [expr_walk_node.f]) (Ev.neg (by show ¬ (false = true); decide) ?_)
  simp only [isT_same, t1, un_const]
  refine Ev.bnd (Ev.ret _) ?_
  exact Ev.bnd h (Ev.ret _)
theorem node_sum (x y : Iv) {l : List St} {ds : List Int} {r : Wk × Int} (h : Ev (fun q => expr_walk_pair.f q (wk l ds) 3 x y) r) : Ev (fun q => expr_walk_node.f q (wk l ds) (some (31, Value.agg #[anyV x, anyV y]))) r := by
  have t1 : ∀ v, isT 23 (some (31, v)) = none := fun _ => rfl
  have t2 : ∀ v, isT 65 (some (31, v)) = none := fun _ => rfl
  refine Ev.step (fun q => by rw [expr_walk_node.f]) (Ev.neg (by show ¬ (false = true); decide) ?_)
  simp only [isT_same, t1, t2, un_sum]
  refine Ev.bnd (Ev.ret _) ?_
  exact Ev.bnd h (Ev.ret _)
theorem node_prod (x y : Iv) {l : List St} {ds : List Int} {r : Wk × Int} (h : Ev (fun q => expr_walk_pair.f q (wk l ds) 4 x y) r) : Ev (fun q => expr_walk_node.f q (wk l ds) (some (26, Value.agg #[anyV x, anyV y]))) r := by
  have t1 : ∀ v, isT 23 (some (26, v)) = none := fun _ => rfl
  have t2 : ∀ v, isT 65 (some (26, v)) = none := fun _ => rfl
  have t3 : ∀ v, isT 31 (some (26, v)) = none := fun _ => rfl
  refine Ev.step (fun q => by rw [expr_walk_node.f]) (Ev.neg (by show ¬ (false = true); decide) ?_)
  simp only [isT_same, t1, t2, t3, un_prod]
  refine Ev.bnd (Ev.ret _) ?_
  exact Ev.bnd h (Ev.ret _)
abbrev dg (X : List St) (i : Nat) : Int := gx degS 0 X i
theorem dg_bd {L vars : Int} {X : List St} (ok : OkS L vars X X.length) {i : Nat} (h : i < X.length) : 0 ≤ dg X i ∧ dg X i ≤ 8 := by
  have hs := ok_small (X := X) (n := i) (Nat.le_of_lt h) fun j hj => ok j (by omega)
  have e := gx_eq degS 0 h
  have h1 := (degS_bd hs (X.getD i st0)).1
  have h2 := (err_zero (ok i h)).2.1
  show 0 ≤ gx degS 0 X i ∧ gx degS 0 X i ≤ 8
  omega
theorem dg_pair {X : List St} {i a b : Nat} (h : i < X.length) (hk : (X.getD i st0).k = 3 ∨ (X.getD i st0).k = 4) (ha : a < i) (hb : b < i) (ea : (X.getD i st0).a = (a : Int)) (eb : (X.getD i st0).b = (b : Int)) :
    dg X i = if (X.getD i st0).k = 4 then dg X a + dg X b else mx (dg X a) (dg X b) := by
  have ra : rdI (G degS (X.take i)) (a : Int) = dg X a := by unfold rdI; rw [Int.toNat_natCast]; exact gx_take degS 0 ha (Nat.le_of_lt h)
  have rb : rdI (G degS (X.take i)) (b : Int) = dg X b := by unfold rdI; rw [Int.toNat_natCast]; exact gx_take degS 0 hb (Nat.le_of_lt h)
  show gx degS 0 X i = _
  rw [gx_eq degS 0 h]
  generalize G degS (X.take i) = ds at *
  unfold degS
  rw [if_neg (by omega), ea, eb, ra, rb]
  rcases hk with hk | hk
  · rw [if_pos hk, if_neg (by omega)]
  · rw [if_neg (by omega), if_pos hk, if_pos hk]
/-- The program lays a step's tree so. -/
theorem node_lays {L vars : Int} {X : List St} (ok : OkS L vars X X.length) : ∀ i, i < X.length → Lays (fun q w => expr_walk_node.f q w (gx treeS none X i)) (U X i) (pt X i) (dg X i) := by
  intro i
  induction i using Nat.strongRecOn with
  | ind i ih =>
  intro h
  have hok := err_zero (ok i h)
  rw [G_length degS (by omega)] at hok
  have et := gx_eq treeS none h
  rcases step_form ok h with hk | ⟨hk, hv, a, b, ha, hb, ea, eb⟩
  · have eu : U X i = 1 := un_leaf h hk
    have ep : pt X i = fun _ => [X.getD i st0] := funext fun m => pt_leaf h hk
    have ed : dg X i = degS (X.getD i st0) (G degS (X.take i)) := gx_eq degS 0 h
    rw [eu, ep, ed, et]
    generalize G degS (X.take i) = ds at *
    generalize G treeS (X.take i) = ts at *
    generalize X.getD i st0 = o at *
    have hk2 := form_kind hok.1
    by_cases k1 : o.k = 1
    · have ho : o = ⟨1, 0, 0, o.v⟩ := by
        rcases hok.1 with g | g | g
        · cases o; simp only at g ⊢; rw [g.1, g.2.1, g.2.2]
        · omega
        · omega
      have hd : degS o ds = 0 := by unfold degS; rw [if_neg (by omega), if_neg (by omega), if_neg (by omega)]
      have ht : treeS o ts = some (65, Value.agg #[Value.int .u64 (hi o.v), Value.int .u64 (lo o.v)]) := if_pos k1
      rw [hd, ht]
      refine lays_put o 0 (by decide) fun l ds r hl hr => node_const o.v ?_
      rwa [← ho]
    · have k2 : o.k = 2 := by omega
      have ho : o = ⟨2, o.a, 0, 0⟩ := by
        rcases hok.1 with g | g | g
        · omega
        · cases o; simp only at g ⊢; rw [g.1, g.2.1, g.2.2]
        · omega
      have hd : degS o ds = 1 := by unfold degS; rw [if_pos k2]
      have ht : treeS o ts = some (23, Value.agg #[Value.int .i64 o.a]) := by unfold treeS; rw [if_neg k1, if_pos k2]
      rw [hd, ht]
      refine lays_put o 1 (by decide) fun l ds r hl hr => node_var (hok.2.2.2 k2).1 ?_
      rwa [← ho]
  · have h2 : (X.getD i st0).k > 2 := by omega
    have eu : U X i = 1 + U X a + U X b := un_pair h h2 ha hb ea eb
    have ep : pt X i = fun m => pt X a m ++ (pt X b (m + U X a) ++ [⟨(X.getD i st0).k, ((m + U X a : Nat) : Int) - 1, ((m + U X a + U X b : Nat) : Int) - 1, 0⟩]) := funext fun m => by
      rw [pt_pair ok h h2 ha hb ea eb, hv]
    have ed := dg_pair h hk ha hb ea eb
    have b1 := dg_bd ok (i := a) (by omega)
    have b2 := dg_bd ok (i := b) (by omega)
    have b3 := dg_bd ok h
    have hp := pair_lays (X.getD i st0).k (gx treeS none X a) (gx treeS none X b) (U X a) (U X b) (pt X a) (pt X b) (dg X a) (dg X b) (lg_un ok a (by omega)).1 (lg_un ok b (by omega)).1 (pt_len ok a (by omega)) (pt_len ok b (by omega))
      (ih a ha (by omega)) (ih b hb (by omega)) ⟨b1.1, b1.2, b2.1, b2.2⟩ (by rw [← ed]; exact b3.2)
    rw [← ed, ← ep, ← eu] at hp
    have ta : (G treeS (X.take i)).getD a none = gx treeS none X a := gx_take treeS none ha (Nat.le_of_lt h)
    have tb : (G treeS (X.take i)).getD b none = gx treeS none X b := gx_take treeS none hb (Nat.le_of_lt h)
    rw [et]
    rcases hk with hk | hk
    · have ht : treeS (X.getD i st0) (G treeS (X.take i)) = some (31, Value.agg #[anyV (gx treeS none X a), anyV (gx treeS none X b)]) := by
        rw [← ta, ← tb]
        generalize G treeS (X.take i) = ts
        unfold treeS; rw [if_neg (by omega), if_neg (by omega), if_pos hk, ea, eb, Int.toNat_natCast, Int.toNat_natCast]
      rw [ht]
      rw [hk] at hp
      exact hp.of fun l ds r hr => node_sum _ _ hr
    · have ht : treeS (X.getD i st0) (G treeS (X.take i)) = some (26, Value.agg #[anyV (gx treeS none X a), anyV (gx treeS none X b)]) := by
        rw [← ta, ← tb]
        generalize G treeS (X.take i) = ts
        unfold treeS; rw [if_neg (by omega), if_neg (by omega), if_neg (by omega), ea, eb, Int.toNat_natCast, Int.toNat_natCast]
      rw [ht]
      rw [hk] at hp
      exact hp.of fun l ds r hr => node_prod _ _ hr
theorem Flat_ev {L vars : Int} {X : List St} (ok : OkS L vars X X.length) {i : Nat} (h : i < X.length) : Ev (fun q => expr_Flat.f q (gx treeS none X i)) (if U X i > 200 then ([], 2) else ((pt X i 0).map toP, 0)) := by
  unfold expr_Flat.f
  obtain ⟨h1, h2⟩ := node_lays ok i h [] [] rfl (by decide)
  by_cases c : U X i > 200
  · rw [if_pos c]
    obtain ⟨w, x, e1, e2⟩ := h2 (by simpa using c)
    exact Ev.bnd e2 (Ev.pos e1 (Ev.ret _))
  · rw [if_neg c]
    obtain ⟨r, _, _, e3⟩ := h1 (by simp only [List.length_nil]; omega)
    refine Ev.bnd e3 (Ev.neg (by show ¬ (false = true); decide) (Ev.pos (by rfl) (Ev.ret' ?_)))
    rfl
end Go.Proofs.Ytlamlgfngpmhgaa.Sp
namespace Go.Proofs.Ytlamlgfngpmhgaa.Stated.exprOdd
open Go.Proofs.Ytlamlgfngpmhgaa.V.B Go.RowKit Go.Proofs.Ytlamlgfngpmhgaa.B
def Pure : Prop := ∀ (x0 : Int) (x1 : Int), ((Lit.int .i64 x0).wf = true) → ((Lit.int .i64 x1).wf = true) → ∃ k, steeplelaw16_ExprOdd.f k x0 x1 = some true
end Go.Proofs.Ytlamlgfngpmhgaa.Stated.exprOdd
namespace Go.Proofs.Ytlamlgfngpmhgaa.Sp
open Go.Proofs.Ytlamlgfngpmhgaa.V.B Go.RowKit Go.Proofs.Ytlamlgfngpmhgaa.B Go.Proofs.Ytlamlgfngpmhgaa.V.B.Ar Go.Proofs.Ytlamlgfngpmhgaa.V.B.Tw
set_option linter.unusedVariables false
set_option linter.unusedSimpArgs false
/-- A product of two variables, of which the first is n. -/
abbrev two (n : Int) : Iv := some (26, Value.agg #[anyV (some (23, Value.agg #[Value.int .i64 n])), anyV (some (23, Value.agg #[Value.int .i64 1]))])
theorem var_lays {n : Int} (hn : 0 ≤ n) : Lays (fun q w => expr_walk_node.f q w (some (23, Value.agg #[Value.int .i64 n]))) 1 (fun _ => [⟨2, n, 0, 0⟩]) 1 :=
  lays_put ⟨2, n, 0, 0⟩ 1 (by decide) fun l ds r hl hr => node_var hn hr
theorem two_lays {n : Int} (hn : 0 ≤ n) : Lays (fun q w => expr_walk_node.f q w (two n)) (1 + 1 + 1) (fun m => [⟨2, n, 0, 0⟩] ++ ([⟨2, 1, 0, 0⟩] ++ [⟨4, ((m + 1 : Nat) : Int) - 1, ((m + 1 + 1 : Nat) : Int) - 1, 0⟩])) (if (4 : Int) = 4 then 1 + 1 else mx 1 1) := by
  have hd : (if (4 : Int) = 4 then 1 + 1 else mx 1 1) ≤ 8 := by decide
  have h1 : (0 : Int) ≤ 1 := by decide
  have h2 : (0 : Int) ≤ 1 ∧ (1 : Int) ≤ 8 ∧ (0 : Int) ≤ 1 ∧ (1 : Int) ≤ 8 := by decide
  have hp := pair_lays 4 (some (23, Value.agg #[Value.int .i64 n])) (some (23, Value.agg #[Value.int .i64 1])) 1 1 (fun _ => [⟨2, n, 0, 0⟩]) (fun _ => [⟨2, 1, 0, 0⟩]) 1 1 (Nat.le_refl 1) (Nat.le_refl 1) (fun _ => rfl) (fun _ => rfl) (var_lays hn) (var_lays h1) h2 hd
  exact hp.of fun l ds r hr => node_prod _ _ hr
theorem two_ok {n : Int} (hn : 0 ≤ n) : ∃ y z, Ev (fun q => expr_Flat.f q (two n)) ([toP ⟨2, n, 0, 0⟩, y, z], 0) := by
  have h0 : ([] : List Int).length + (1 + 1 + 1) ≤ 200 := by show 3 ≤ 200; omega
  obtain ⟨r, _, _, h3⟩ := (two_lays hn [] [] rfl (Nat.zero_le _)).1 h0
  refine ⟨toP ⟨2, 1, 0, 0⟩, toP ⟨4, ((([] : List Int).length + 1 : Nat) : Int) - 1, ((([] : List Int).length + 1 + 1 : Nat) : Int) - 1, 0⟩, ?_⟩
  unfold expr_Flat.f
  refine Ev.bnd h3 (Ev.neg (by show ¬ (false = true); decide) (Ev.pos (by rfl) (Ev.ret' ?_)))
  simp only [wk, List.nil_append, List.cons_append, List.map_cons, List.map_nil]
theorem put_any (w : Wk) (o : S36) (d : Int) (hl : w.f0.length < 200) (h1 : w.f1.length < 200) (hd : d ≤ 8) : Ev (fun q => expr_walk_put.f q w o d) ((⟨w.f0 ++ [o], w.f1 ++ [d], w.f2, w.f3⟩ : Wk), (w.f0.length : Int)) := by
  unfold expr_walk_put.f
  refine Ev.neg (by omega) (Ev.neg (by omega) (Ev.pos (by show w.f0.length + 1 ≤ _; omega) (Ev.pos (by show w.f1.length + 1 ≤ _; omega) (Ev.ret' ?_))))
  rw [List.length_append, List.length_singleton, w64_id (by omega) (by omega)]
  exact Prod.ext rfl (by show (_ : Int) = _; omega)
theorem note_any (w : Wk) (e : Int) (h : w.f2 = 0) : Ev (fun q => expr_walk_note.f q w e) ((⟨w.f0, w.f1, e, w.f3⟩ : Wk), ()) := by
  unfold expr_walk_note.f
  exact Ev.pos h (Ev.ret _)
theorem two_no {n : Int} (hn : n < 0) : Ev (fun q => expr_Flat.f q (two n)) ([], 4) := by
  have hp : Ev (fun q => expr_walk_node.f q (⟨[], [], 0, false⟩ : Wk) (some (23, Value.agg #[Value.int .i64 n]))) ((⟨[⟨2, n, 0, ⟨0, 0⟩⟩], [1], 4, false⟩ : Wk), 0) := by
    refine Ev.step (fun q => by rw [expr_walk_node.f]) (Ev.neg (by show ¬ (false = true); decide) ?_)
    simp only [isT_same, un_var]
    refine Ev.bnd (Ev.ret _) (Ev.pos hn (Ev.bnd (note_any _ _ rfl) ?_))
    refine Ev.bnd (put_any _ _ _ (by show 0 < 200; omega) (by show 0 < 200; omega) (by omega)) (Ev.ret' ?_)
    rfl
  have hv : ∀ o : S36, Ev (fun q => expr_walk_node.f q (⟨[o], [1], 4, false⟩ : Wk) (some (23, Value.agg #[Value.int .i64 1]))) ((⟨[o, ⟨2, 1, 0, ⟨0, 0⟩⟩], [1, 1], 4, false⟩ : Wk), 1) := by
    intro o
    refine Ev.step (fun q => by rw [expr_walk_node.f]) (Ev.neg (by show ¬ (false = true); decide) ?_)
    simp only [isT_same, un_var]
    refine Ev.bnd (Ev.ret _) (Ev.neg (by show ¬ ((1 : Int) < 0); decide) ?_)
    refine Ev.bnd (put_any _ _ _ (by show 1 < 200; omega) (by show 1 < 200; omega) (by omega)) (Ev.ret' ?_)
    rfl
  have hn2 : Ev (fun q => expr_walk_node.f q (⟨[], [], 0, false⟩ : Wk) (two n)) ((⟨[⟨2, n, 0, ⟨0, 0⟩⟩, ⟨2, 1, 0, ⟨0, 0⟩⟩, ⟨4, 0, 1, ⟨0, 0⟩⟩], [1, 1, 2], 4, false⟩ : Wk), 2) := by
    have t1 : ∀ v, isT 23 (some (26, v)) = none := fun _ => rfl
    have t2 : ∀ v, isT 65 (some (26, v)) = none := fun _ => rfl
    have t3 : ∀ v, isT 31 (some (26, v)) = none := fun _ => rfl
    refine Ev.step (fun q => by rw [expr_walk_node.f]) (Ev.neg (by show ¬ (false = true); decide) ?_)
    simp only [two, isT_same, t1, t2, t3, un_prod]
    refine Ev.bnd (Ev.ret _) (Ev.bnd (a := ((⟨[⟨2, n, 0, ⟨0, 0⟩⟩, ⟨2, 1, 0, ⟨0, 0⟩⟩, ⟨4, 0, 1, ⟨0, 0⟩⟩], [1, 1, 2], 4, false⟩ : Wk), 2)) ?_ (Ev.ret _))
    refine Ev.step (fun q => by rw [expr_walk_pair.f]) ?_
    have z0 : (0 : Int) ≤ 0 := by decide
    have z1 : (0 : Int) ≤ 1 := by decide
    have z2 : (0 : Int) < 2 := by decide
    have z3 : (1 : Int) < 2 := by decide
    have es : wrap64 (rdI [1, 1] 0 + rdI [1, 1] 1) = 2 := w64_id (x := 2) (by decide) (by decide)
    refine Ev.bnd hp (Ev.bnd (hv _) (Ev.neg (by show ¬ (false = true); decide) (Ev.pos z0 (Ev.pos z2 (Ev.pos z1 (Ev.pos z3 (Ev.pos rfl (Ev.pos z0 (Ev.pos z2 (Ev.pos z1 (Ev.pos z3 ?_)))))))))))
    refine Ev.bnd (put_any _ _ _ (by show 2 < 200; omega) (by show 2 < 200; omega) (by show wrap64 (rdI [1, 1] 0 + rdI [1, 1] 1) ≤ 8; rw [es]; decide)) (Ev.ret' ?_)
    show ((⟨_, [1, 1] ++ [wrap64 (rdI [1, 1] 0 + rdI [1, 1] 1)], 4, false⟩ : Wk), _) = _
    rw [es]
    rfl
  unfold expr_Flat.f
  exact Ev.bnd hn2 (Ev.neg (by show ¬ (false = true); decide) (Ev.neg (by show ¬ ((4 : Int) = 0); decide) (Ev.ret _)))
theorem flat_none : Ev (fun q => expr_Flat.f q none) ([], 1) := Ev.at 20 fun k => by kernel_rfl
theorem flat_seven : Ev (fun q => expr_Flat.f q (some (31, Value.agg #[anyV (some (23, Value.agg #[Value.int .i64 0])), anyV (some (3, Value.int .i64 7))]))) ([], 1) := Ev.at 20 fun k => by kernel_rfl
/-- The loop, from each number of factors. -/
theorem odd_l11 (n : Int) : ∀ k : Nat, k < 20 → Ev (fun q => steeplelaw16_ExprOdd.l11 q n ((1 + k : Nat) : Int) (some (23, Value.agg #[Value.int .i64 2])) 1) (if k < 8 then decide (n = n) else true) := by
  intro k hk
  have all : k = 0 ∨ k = 1 ∨ k = 2 ∨ k = 3 ∨ k = 4 ∨ k = 5 ∨ k = 6 ∨ k = 7 ∨ k = 8 ∨ k = 9 ∨ k = 10 ∨ k = 11 ∨ k = 12 ∨ k = 13 ∨ k = 14 ∨ k = 15 ∨ k = 16 ∨ k = 17 ∨ k = 18 ∨ k = 19 := by omega
  rcases all with h | h | h | h | h | h | h | h | h | h | h | h | h | h | h | h | h | h | h | h <;> subst h <;> exact Ev.at 120 fun q => by kernel_rfl
end Go.Proofs.Ytlamlgfngpmhgaa.Sp
namespace Go.Proofs.Ytlamlgfngpmhgaa.Pure
open Go.Proofs.Ytlamlgfngpmhgaa.V.B Go.RowKit Go.Proofs.Ytlamlgfngpmhgaa.B Go.Proofs.Ytlamlgfngpmhgaa.V.B.Ar Go.Proofs.Ytlamlgfngpmhgaa.V.B.Tw Go.Proofs.Ytlamlgfngpmhgaa.Sp
theorem ExprOdd : Stated.exprOdd.Pure := by
  intro n f hn hf
  refine Ev.rounds (g := fun k => steeplelaw16_ExprOdd.f k n f) ?_
  have hb := wf_i64 hf
  obtain ⟨t, ht⟩ : ∃ t, Int.tmod f 20 = t := ⟨_, rfl⟩
  have t1 : -20 < t ∧ t < 20 := by rw [← ht]; exact ⟨Int.lt_tmod_of_pos f (by decide), Int.tmod_lt_of_pos f (by decide)⟩
  have e1 : wrap64 (Int.tmod f 20 + 20) = t + 20 := by rw [ht, w64_id (by omega) (by omega)]
  obtain ⟨u, hu⟩ : ∃ u : Nat, Int.tmod (t + 20) 20 = (u : Int) := ⟨(Int.tmod (t + 20) 20).toNat, (Int.toNat_of_nonneg (Int.tmod_nonneg _ (by omega))).symm⟩
  have hu2 : u < 20 := by have := Int.tmod_lt_of_pos (t + 20) (b := 20) (by decide); omega
  have ew : wrap64 (1 + Int.tmod (wrap64 (Int.tmod f 20 + 20)) 20) = ((1 + u : Nat) : Int) := by rw [e1, hu, w64_id (by omega) (by omega)]; omega
  have j7 : Ev (fun q => steeplelaw16_ExprOdd.j7 q n f) true := by
    refine Ev.step (fun q => by rw [steeplelaw16_ExprOdd.j7]) ?_
    rw [ew]
    refine (odd_l11 n u hu2).eqn ?_
    split
    · exact decide_eq_true rfl
    · rfl
  unfold steeplelaw16_ExprOdd.f
  by_cases h0 : n < 0
  · refine Ev.bnd (two_no h0) (Ev.bnd flat_none (Ev.bnd flat_seven (Ev.pos rfl (Ev.pos rfl (Ev.pos ?_ (Ev.pos ?_ (Ev.neg (by decide) j7)))))))
    · simp [h0]
    · simp; omega
  · obtain ⟨y, z, hyz⟩ := two_ok (n := n) (by omega)
    refine Ev.bnd hyz (Ev.bnd flat_none (Ev.bnd flat_seven (Ev.pos rfl (Ev.pos rfl (Ev.pos ?_ (Ev.pos ?_ (Ev.pos rfl (Ev.pos rfl (Ev.pos (by show (0 : Int) < 3; decide) (Ev.pos rfl j7))))))))))
    · simp [h0]
    · simp; omega
end Go.Proofs.Ytlamlgfngpmhgaa.Pure
namespace Go.Proofs.Ytlamlgfngpmhgaa.exprOdd
open Go.Proofs.Ytlamlgfngpmhgaa.V.B Go.ChangeShapes Go.WideShapes Go.ChangeAt Go.RowKit Go.Proofs.Ytlamlgfngpmhgaa.B
set_option linter.unusedVariables false
set_option linter.unusedSimpArgs false
theorem own : ownKnob Try.prog.godebug = none := by kernel_rfl
theorem laidOut : laidOutB Try.prog = true := by kernel_rfl
def tab1 : Tab := ⟨[(3, .int .i64)], [], [], [], []⟩
theorem tab1_ok : tab1.chk E Try.prog = true := by kernel_rfl
theorem tie1 (calls : Nat → Option (Sig E.toTys)) : Tie (XR E) Try.prog (tab1.ctx calls) := tie_of zl_ok tab1_ok calls
theorem sts : chkSt E Try.prog tab1 tab1.tys = true := by kernel_rfl
set_option maxRecDepth 100000 in
theorem lifted (os : Os) (started : os.Started) (H : Type) (enc : TypeId × Value → H) :
    ReturnsInHanded {} Try.checked os 3 .any (Rows.exprOddSpec.pre6 enc Try.prog Try.f3 Rows.exprOddRow.domain false) (Rows.exprOddSpec.post enc Try.prog Try.f3 false true false false) := by
  refine returnsInHanded_of_change_sized (C := Try.checked) own started (by kernel_rfl) Try.func3
    (ChangeSpec.witness6 (enc := enc) (C := Try.checked) false ⟨#[], #[.int .i64 0, .int .i64 0], []⟩ 8 (by kernel_rfl) (by kernel_rfl) (by kernel_rfl) (by kernel_rfl)) ?_
  intro W base args ds gs before hval0 hW hcnd hsz0 _
  have hval : ∀ (j : Nat) t v, Try.f3.params[j]? = some t → args[j]? = some v → Value.okWide Try.prog W .any base t v := hval0
  have hW' := hW
  obtain ⟨p, q, hA0, hV, rfl, hfz, hnd⟩ := hW
  have hA : DataW.TrodAll enc Try.prog W 0 (fun _ => true) true Try.f3.params.toList args.toList ds p := hA0
  rw [Try.params3] at hA hval
  obtain ⟨v0, vs0, d0, ds0, p0, q0, hargs, rfl, rfl, h0, r0⟩ := trodAll_cons hA
  obtain ⟨v1, vs1, d1, ds1, p1, q1, rfl, rfl, rfl, h1, r1⟩ := trodAll_cons r0
  obtain ⟨rfl, rfl, rfl⟩ := trodAll_nil r1
  obtain rfl : args = #[v0, v1] := by cases args; simp_all
  obtain ⟨rfl, rfl⟩ := trodVars_none hV
  have k0 := h0
  have lt0 : ∀ x ∈ p0, x.block < W.heap.size := by obtain ⟨m, hm⟩ := k0; exact DataW.trod_lt m _ _ _ hm
  obtain ⟨x0, cs0, e0, R0, g0⟩ := arg_ok tie1 sts (t := 3) (ty := .int .i64) rfl rfl (hval 0 3 v0 rfl rfl) h0
  have k1 := h1
  have lt1 : ∀ x ∈ p1, x.block < W.heap.size := by obtain ⟨m, hm⟩ := k1; exact DataW.trod_lt m _ _ _ hm
  obtain ⟨x1, cs1, e1, R1, g1⟩ := arg_ok tie1 sts (t := 3) (ty := .int .i64) rfl rfl (hval 1 3 v1 rfl rfl) h1
  clear hA0 hval0 hsz0
  obtain ⟨k, hpure⟩ := Pure.ExprOdd x0 x1 (g0 4) (g1 4)
  refine ((steeplelaw16_ExprOdd.ok k).1 (x0, (x1, ())) true hpure W (fun b => b < W.heap.size) [v0, v1] (fun b hb => hb) ⟨_, _, cs0, rfl, R0, e0, ⟨_, _, cs1, rfl, R1, e1, rfl⟩⟩).mono fun e W2 hh => ?_
  obtain ⟨rfl, bel⟩ := ret_bool hh
  exact ⟨_, rfl, _, _, _, [], _, [], hW', trodAll_mk1 (shut_bool Try.underlying4 _), (trodAll_cons_mk (Below.trod laidOut (by kernel_rfl) (of_decide_eq_true (by kernel_rfl)) k0 bel lt0) (trodAll_cons_mk (Below.trod laidOut (by kernel_rfl) (of_decide_eq_true (by kernel_rfl)) k1 bel lt1) trodAll_mk0)), rfl, bel.frame _, fun h => by cases h⟩
theorem over : Rows.exprOddRow.holds Try.pinned (OpenSpec.ofChange Rows.exprOddSpec) :=
  OpenClaim.holds_of_wide 3 Try.f3 rfl rfl rfl rfl rfl rfl rfl ⟨rfl, rfl, rfl, rfl, rfl⟩ rfl rfl rfl rfl rfl (by kernel_rfl) Try.func3 (by kernel_rfl)
    (of_decide_eq_true (by kernel_rfl)) (by unfold Func.isWrapper; first | (rw [if_pos (by decide +kernel)]; kernel_rfl) | (rw [if_neg (by decide +kernel)]; exact ⟨rfl, rfl⟩))
    (fun os started H enc _ => lifted os started H enc)
end Go.Proofs.Ytlamlgfngpmhgaa.exprOdd
namespace Go.Proofs.Ytlamlgfngpmhgaa
/-- The law, for every input. -/
theorem exprOdd_holds : Rows.ExprOddSaid := exprOdd.over
#print axioms exprOdd_holds
end Go.Proofs.Ytlamlgfngpmhgaa

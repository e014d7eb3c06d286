/- Own text: merged by pack2.py. -/
import Derived.Test.YtbapldgapbmdkaaGreatMBa
import Derived.Test.YtbapldgapbmdkaaGreatMBb
import Derived.Test.YtbapldgapbmdkaaGreatMBc
import Derived.Test.YtbapldgapbmdkaaGreatMFa
set_option linter.unusedSimpArgs false
set_option linter.unusedVariables false
namespace Go.Proofs.YtbapldgapbmdkaaGreat.Stated.codeBack
open Go.Proofs.YtbapldgapbmdkaaGreat.V.B Go.RowKit Go.Proofs.YtbapldgapbmdkaaGreat.B
def Pure : Prop := ∀ (x0 : S23) (x1 : List S47), (((Lit.int .i64 x0.f0).wf = true) ∧ ((Lit.int .i64 x0.f1).wf = true) ∧ ((Lit.int .i64 x0.f2).wf = true)) → ((∀ y0 ∈ x1, ((Lit.int .u64 y0.f0).wf = true) ∧ ((Lit.int .u64 y0.f1).wf = true)) ∧ x1.length ≤ maxLen) → ∃ k, steeplelaw08_CodeBack.f k x0 x1 = some true
end Go.Proofs.YtbapldgapbmdkaaGreat.Stated.codeBack
namespace Go.Proofs.YtbapldgapbmdkaaGreat.Sp
open Go.Proofs.YtbapldgapbmdkaaGreat.V.B Go.RowKit Go.Proofs.YtbapldgapbmdkaaGreat.B Go.Proofs.YtbapldgapbmdkaaGreat.V.B.Ar Go.Proofs.YtbapldgapbmdkaaGreat.V.B.Tw
set_option linter.unusedVariables false
set_option linter.unusedSimpArgs false
theorem Q_le_64 {n : Nat} (h : n ≤ 6) : Q n ≤ 2 ^ 64 := Q_mono h
theorem Q_dvd {n : Nat} : Q n = 2 ^ 2 ^ n := rfl
theorem two_pow_le_32 {n : Nat} (h : n ≤ 5) : 2 ^ n ≤ 32 := Nat.pow_le_pow_right (n := 2) (by decide) h
theorem w64_pred {l : Nat} (h : l + 1 ≤ 1000) : wrap64 (((l + 1 : Nat) : Int) - 1) = (l : Int) := by rw [w64_id (by omega) (by omega)]; omega
theorem Q_lt_64 {n : Nat} (h : n ≤ 5) : Q n < 2 ^ 64 := Nat.pow_lt_pow_right (by decide) (by have := two_pow_le_32 h; omega)
theorem halves_eq (k : Nat) {l : Nat} (hl : l ≤ 5) (x : Nat) (hx : x < 2 ^ 64) : tower_halves.f k ((l + 1 : Nat) : Int) (x : Int) = some (((x / Q l : Nat) : Int), ((x % Q l : Nat) : Int)) := by
  unfold tower_halves.f
  have h32 := two_pow_le_32 hl
  have hQ := Q_lt_64 hl
  have hm : IntKind.u64.wrap (((2 ^ 2 ^ l : Nat) : Int) - 1) = ((2 ^ 2 ^ l - 1 : Nat) : Int) := by
    have := Nat.two_pow_pos (2 ^ l)
    unfold Q at hQ
    generalize 2 ^ 2 ^ l = q at *
    rw [u64_id (by omega) (by omega)]; omega
  rw [w64_pred (by omega), if_pos (Int.natCast_nonneg _), shl_i64 l (by omega), if_pos (Int.natCast_nonneg _), shr_u64 x (2 ^ l) (by omega), shl_u64 (2 ^ l) (by omega), hm]
  rw [and_u64 x _ hx (by have := Nat.two_pow_pos (2 ^ l); unfold Q at hQ; omega), Nat.and_two_pow_sub_one_eq_mod]
  rfl
theorem join_eq (k : Nat) {l : Nat} (hl : l ≤ 5) (h x : Nat) (hh : h < Q l) (hx : x < Q l) : tower_join.f k ((l + 1 : Nat) : Int) (h : Int) (x : Int) = some ((h * Q l + x : Nat) : Int) := by
  unfold tower_join.f
  have h32 := two_pow_le_32 hl
  have hQ := Q_lt_64 hl
  have h6 : Q (l + 1) ≤ 2 ^ 64 := Q_le_64 (by omega)
  have hhx : h * Q l + Q l ≤ Q (l + 1) := by
    rw [Q_succ]
    have := Nat.mul_le_mul_right (Q l) hh
    rw [Nat.succ_mul] at this; exact this
  have hs : shl .u64 (h : Int) (((2 ^ l : Nat) : Int)) = ((h * Q l : Nat) : Int) := by
    unfold shl
    have h64 : IntKind.u64.bits = 64 := rfl
    rw [h64, Int.toNat_natCast, Nat.min_eq_left (by omega)]
    have hc : ((h : Int) * 2 ^ 2 ^ l) = ((h * Q l : Nat) : Int) := by unfold Q; simp
    rw [hc]
    have : h * Q l < 2 ^ 64 := by omega
    generalize h * Q l = z at *
    exact u64_id (by omega) (by omega)
  rw [w64_pred (by omega), if_pos (by omega), shl_u64 l (by omega), if_pos (Int.natCast_nonneg _), hs, or_u64 _ _ (by omega) (by omega)]
  congr 2
  unfold Q at *
  rw [Nat.mul_comm, ← Nat.two_pow_add_eq_or_of_lt hx]
theorem halves_ev {l : Nat} (hl : l ≤ 5) (x : Nat) (hx : x < 2 ^ 64) : Ev (fun k => tower_halves.f k ((l + 1 : Nat) : Int) (x : Int)) (((x / Q l : Nat) : Int), ((x % Q l : Nat) : Int)) := ⟨0, fun k _ => halves_eq k hl x hx⟩
theorem join_ev {l : Nat} (hl : l ≤ 5) (h x : Nat) (hh : h < Q l) (hx : x < Q l) : Ev (fun k => tower_join.f k ((l + 1 : Nat) : Int) (h : Int) (x : Int)) ((h * Q l + x : Nat) : Int) := ⟨0, fun k _ => join_eq k hl h x hh hx⟩
theorem mulX_ev : ∀ (l : Nat), l ≤ 6 → ∀ (x : Nat), x < Q l → Ev (fun k => tower_mulX.f k (l : Int) (x : Int)) ((val (gen l * of l x) : Nat) : Int) := by
  intro l
  induction l with
  | zero =>
    intro _ x hx
    refine Ev.step (fun k => by rw [tower_mulX.f]) (Ev.pos (by rfl) (Ev.ret' ?_))
    rw [gen_zero, one_mul, val_of 0 x hx]
  | succ l ih =>
    intro hl x hx
    have hx64 : x < 2 ^ 64 := Nat.lt_of_lt_of_le hx (Q_le_64 hl)
    have hd : x / Q l < Q l := Nat.div_lt_of_lt_mul (by rw [← Q_succ]; exact hx)
    have hm : x % Q l < Q l := Nat.mod_lt _ (Q_pos l)
    have hQ := Q_lt_64 (n := l) (by omega)
    refine Ev.step (fun k => by rw [tower_mulX.f]) (Ev.neg (by omega) (Ev.bnd (halves_ev (by omega) x hx64) ?_))
    simp only [w64_pred (show l + 1 ≤ 1000 by omega)]
    refine Ev.bnd (ih (by omega) _ hd) ?_
    have hv := val_lt (gen l * of l (x / Q l))
    simp only [xor_u64 _ _ (Nat.lt_trans hm hQ) (Nat.lt_trans hv hQ)]
    refine Ev.bnd (join_ev (by omega) _ _ (xor_lt hm hv) hd) (Ev.ret' ?_)
    congr 1
    rw [val_succ (gen (l + 1) * of (l + 1) x)]
    congr 1
    · congr 1
      have e : (gen (l + 1) * of (l + 1) x).1 = of l (x % Q l) + gen l * of l (x / Q l) := by
        rw [mul_fst, gen_fst, gen_snd, one_mul, zero_mul, one_mul, add_zero]; rfl
      rw [e, val_add, val_of _ _ hm]
    · have e : (gen (l + 1) * of (l + 1) x).2 = of l (x / Q l) := by
        rw [mul_snd, gen_fst, gen_snd, one_mul, zero_mul, zero_add]; rfl
      rw [e, val_of _ _ hd]
theorem karatsuba {n : Nat} (a1 a0 b1 b0 z : T n) : (a1 + a0) * (b1 + b0) + a1 * b1 + a0 * b0 + z = (a1 * b0 + a0 * b1) + z := by
  have : (a1 + a0) * (b1 + b0) + a1 * b1 + a0 * b0 = a1 * b0 + a0 * b1 := by
    simp only [mul_add, add_mul]
    have : ∀ p q r s : T n, p + q + (r + s) + p + s = q + r := fun p q r s => by
      rw [add_comm p q, add_assoc, add_assoc, add_assoc]
      rw [show p + (r + s + (p + s)) = (p + p) + (r + (s + s)) by simp only [add_assoc, add_left_comm, add_comm]]
      rw [add_self, add_self, zero_add, add_zero]
    rw [show a1 * b1 + a0 * b1 + (a1 * b0 + a0 * b0) = a1 * b1 + a0 * b1 + (a1 * b0 + a0 * b0) from rfl, this, add_comm]
  rw [this]
theorem mul_ev : ∀ (l : Nat), l ≤ 6 → ∀ (x y : Nat), x < Q l → y < Q l → Ev (fun k => tower_mul.f k (l : Int) (x : Int) (y : Int)) ((val (of l x * of l y) : Nat) : Int) := by
  intro l
  have hz : ∀ (l : Nat), l ≤ 6 → ∀ (x y : Nat), x < Q l → y < Q l → (l = 0 ∨ x = 0 ∨ y = 0) → Ev (fun k => tower_mul.j2 k (x : Int) (y : Int)) ((val (of l x * of l y) : Nat) : Int) := by
    intro l hl x y hx hy h
    have hQ := Q_le_64 hl
    refine Ev.step (fun k => by rw [tower_mul.j2]) (Ev.ret' ?_)
    rw [and_u64 x y (by omega) (by omega)]
    have hxy : x &&& y < 2 ^ 64 := Nat.and_lt_two_pow _ (by omega)
    rw [show (1 : Int) = ((1 : Nat) : Int) from rfl, and_u64 _ 1 hxy (by decide)]
    congr 1
    rcases h with rfl | rfl | rfl
    · have h1 : x < 2 := hx
      have h2 : y < 2 := hy
      rcases (by omega : x = 0 ∨ x = 1) with rfl | rfl <;> rcases (by omega : y = 0 ∨ y = 1) with rfl | rfl <;> rfl
    · rw [of_zero, zero_mul, val_zero]; simp
    · rw [of_zero, mul_zero, val_zero]; simp
  induction l with
  | zero =>
    intro hl x y hx hy
    exact Ev.step (fun k => by rw [tower_mul.f]) (Ev.pos (by rfl) (hz 0 hl x y hx hy (Or.inl rfl)))
  | succ l ih =>
    intro hl x y hx hy
    refine Ev.step (fun k => by rw [tower_mul.f]) (Ev.neg (by omega) ?_)
    by_cases hx0 : x = 0
    · exact Ev.pos (by omega) (hz (l + 1) hl x y hx hy (Or.inr (Or.inl hx0)))
    refine Ev.neg (by omega) ?_
    by_cases hy0 : y = 0
    · exact Ev.pos (by omega) (hz (l + 1) hl x y hx hy (Or.inr (Or.inr hy0)))
    refine Ev.neg (by omega) ?_
    have hQ := Q_lt_64 (n := l) (by omega)
    have hx64 : x < 2 ^ 64 := Nat.lt_of_lt_of_le hx (Q_le_64 hl)
    have hy64 : y < 2 ^ 64 := Nat.lt_of_lt_of_le hy (Q_le_64 hl)
    have hxd : x / Q l < Q l := Nat.div_lt_of_lt_mul (by rw [← Q_succ]; exact hx)
    have hxm : x % Q l < Q l := Nat.mod_lt _ (Q_pos l)
    have hyd : y / Q l < Q l := Nat.div_lt_of_lt_mul (by rw [← Q_succ]; exact hy)
    have hym : y % Q l < Q l := Nat.mod_lt _ (Q_pos l)
    have hl5 : l ≤ 5 := by omega
    refine Ev.bnd (halves_ev hl5 x hx64) (Ev.bnd (halves_ev hl5 y hy64) ?_)
    simp only [w64_pred (show l + 1 ≤ 1000 by omega)]
    refine Ev.bnd (ih (by omega) _ _ hxd hyd) (Ev.bnd (ih (by omega) _ _ hxm hym) ?_)
    simp only [xor_u64 _ _ (Nat.lt_trans hxd hQ) (Nat.lt_trans hxm hQ), xor_u64 _ _ (Nat.lt_trans hyd hQ) (Nat.lt_trans hym hQ)]
    refine Ev.bnd (ih (by omega) _ _ (xor_lt hxd hxm) (xor_lt hyd hym)) ?_
    have v1 := val_lt (of l (x / Q l) * of l (y / Q l))
    have v2 := val_lt (of l (x % Q l) * of l (y % Q l))
    have v3 := val_lt (of l (x / Q l ^^^ x % Q l) * of l (y / Q l ^^^ y % Q l))
    refine Ev.bnd (mulX_ev l (by omega) _ v1) ?_
    have v4 := val_lt (gen l * of l (val (of l (x / Q l) * of l (y / Q l))))
    simp only [xor_u64 _ _ (Nat.lt_trans v3 hQ) (Nat.lt_trans v1 hQ), xor_u64 _ _ (Nat.lt_trans (xor_lt v3 v1) hQ) (Nat.lt_trans v2 hQ), xor_u64 _ _ (Nat.lt_trans (xor_lt (xor_lt v3 v1) v2) hQ) (Nat.lt_trans v4 hQ), xor_u64 _ _ (Nat.lt_trans v2 hQ) (Nat.lt_trans v1 hQ)]
    refine Ev.bnd (join_ev (by omega) _ _ (xor_lt (xor_lt (xor_lt v3 v1) v2) v4) (xor_lt v2 v1)) (Ev.ret' ?_)
    congr 1
    rw [val_succ (of (l + 1) x * of (l + 1) y)]
    congr 1
    · congr 1
      rw [mul_fst, of_succ, of_succ, mk_fst, mk_snd, mk_fst, mk_snd, ← karatsuba, val_add, val_add, val_add, of_xor hxd hxm, of_xor hyd hym, of_val]
    · rw [mul_snd, of_succ, of_succ, mk_fst, mk_snd, mk_fst, mk_snd, val_add]
end Go.Proofs.YtbapldgapbmdkaaGreat.Sp
namespace Go.Proofs.YtbapldgapbmdkaaGreat.Sp
open Go.Proofs.YtbapldgapbmdkaaGreat.V.B Go.RowKit Go.Proofs.YtbapldgapbmdkaaGreat.B Go.Proofs.YtbapldgapbmdkaaGreat.V.B.Ar Go.Proofs.YtbapldgapbmdkaaGreat.V.B.Tw
set_option linter.unusedVariables false
set_option linter.unusedSimpArgs false
abbrev E := T 7
/-- The higher and the lower word. -/
def hi (x : E) : Int := ((val x.1 : Nat) : Int)
def lo (x : E) : Int := ((val x.2 : Nat) : Int)
def el (h l : Int) : E := mk (of 6 h.toNat) (of 6 l.toNat)
theorem hi_el {h l : Int} (h0 : 0 ≤ h) (h1 : h < 18446744073709551616) : hi (el h l) = h := by
  unfold hi el; rw [mk_fst, val_of 6 _ (by rw [Q_six]; omega)]; omega
theorem lo_el {h l : Int} (h0 : 0 ≤ l) (h1 : l < 18446744073709551616) : lo (el h l) = l := by
  unfold lo el; rw [mk_snd, val_of 6 _ (by rw [Q_six]; omega)]; omega
theorem hl_inj {x y : E} (h : hi x = hi y) (l : lo x = lo y) : x = y := by
  unfold hi lo at *; exact ext (val_inj (by omega)) (val_inj (by omega))
theorem hi_zero : hi 0 = 0 := by unfold hi; rw [zero_fst, val_zero]; rfl
theorem lo_zero : lo 0 = 0 := by unfold lo; rw [zero_snd, val_zero]; rfl
theorem hi_one : hi 1 = 0 := by unfold hi; rw [one_fst, val_zero]; rfl
theorem lo_one : lo 1 = 1 := by unfold lo; rw [one_snd, val_one]; rfl
theorem hi_bd (x : E) : 0 ≤ hi x ∧ hi x < 18446744073709551616 := by
  unfold hi; have := val_lt x.1; rw [Q_six] at this; omega
theorem lo_bd (x : E) : 0 ≤ lo x ∧ lo x < 18446744073709551616 := by
  unfold lo; have := val_lt x.2; rw [Q_six] at this; omega
theorem val_hl (x : E) : val x = (hi x).toNat * 18446744073709551616 + (lo x).toNat := by
  unfold hi lo; rw [val_succ, Q_six]; simp
theorem eq_zero_iff (x : E) : x = 0 ↔ hi x = 0 ∧ lo x = 0 := ⟨fun h => by rw [h]; exact ⟨hi_zero, lo_zero⟩, fun h => hl_inj (h.1.trans hi_zero.symm) (h.2.trans lo_zero.symm)⟩
theorem xor_hi (x y : E) : Go.bits .xor .u64 (hi x) (hi y) = hi (x + y) := by
  unfold hi; rw [xor_u64 _ _ (val_lt x.1) (val_lt y.1), add_fst, val_add]
theorem xor_lo (x y : E) : Go.bits .xor .u64 (lo x) (lo y) = lo (x + y) := by
  unfold lo; rw [xor_u64 _ _ (val_lt x.2) (val_lt y.2), add_snd, val_add]
/-- Of a level. -/
def InL (l : Nat) (x : E) : Prop := val x < Q l
instance (l : Nat) (x : E) : Decidable (InL l x) := by unfold InL; infer_instance
def OfS (L : Int) (x : E) : Prop := 0 ≤ L ∧ L ≤ 7 ∧ InL L.toNat x
instance (L : Int) (x : E) : Decidable (OfS L x) := by unfold OfS; infer_instance
theorem inL_seven (x : E) : InL 7 x := val_lt x
theorem inL_zero (l : Nat) : InL l 0 := by unfold InL; rw [val_zero]; exact Q_pos l
theorem inL_one (l : Nat) : InL l 1 := by unfold InL; rw [val_one]; exact Nat.lt_of_lt_of_le (by decide : 1 < Q 0) (Q_mono (Nat.zero_le _))
theorem inL_mono {l m : Nat} (h : l ≤ m) {x : E} (hx : InL l x) : InL m x := Nat.lt_of_lt_of_le hx (Q_mono h)
theorem inL_add {l : Nat} {x y : E} (hx : InL l x) (hy : InL l y) : InL l (x + y) := by
  unfold InL at *; rw [val_add]; exact xor_lt hx hy
theorem inL_mul {l : Nat} (hl : l ≤ 7) {x y : E} (hx : InL l x) (hy : InL l y) : InL l (x * y) := by
  unfold InL at *; have := val_mul_lt hl hx hy; rwa [of_val, of_val] at this
theorem inL_six {x : E} : InL 6 x ↔ hi x = 0 := by
  unfold InL; have h := val_hl x; have h1 := hi_bd x; have h2 := lo_bd x
  rw [Q_six, h]; constructor <;> intro g <;> omega
theorem inL_low {l : Nat} (hl : l ≤ 6) {x : E} : InL l x ↔ hi x = 0 ∧ (lo x).toNat < Q l := by
  constructor
  · intro h
    have h6 := inL_six.1 (inL_mono hl h)
    refine ⟨h6, ?_⟩
    unfold InL at h; rw [val_hl, h6] at h; simpa using h
  · rintro ⟨h1, h2⟩
    unfold InL; rw [val_hl, h1]; simpa using h2
/-- The program's element, the document's. -/
@[reducible] def toS (x : E) : S47 := ⟨hi x, lo x⟩
@[reducible] def toR (x : E) : S48 := ⟨hi x, lo x⟩
def WfS (e : S47) : Prop := (0 ≤ e.f0 ∧ e.f0 < 18446744073709551616) ∧ (0 ≤ e.f1 ∧ e.f1 < 18446744073709551616)
theorem of_ev (L : Int) (x : E) : Ev (fun k => octet_Of.f k L (toS x)) (decide (OfS L x)) := by
  unfold octet_Of.f
  by_cases h0 : L < 0
  · refine Ev.pos h0 (Ev.ret' ?_)
    symm; rw [decide_eq_false_iff_not]; rintro ⟨h, _⟩; omega
  refine Ev.neg h0 ?_
  by_cases h7 : L > 7
  · refine Ev.pos h7 (Ev.ret' ?_)
    symm; rw [decide_eq_false_iff_not]; rintro ⟨_, h, _⟩; omega
  refine Ev.neg h7 ?_
  obtain ⟨l, rfl⟩ := Int.eq_ofNat_of_zero_le (show 0 ≤ L by omega)
  have hS : OfS (l : Int) x ↔ InL l x := by
    unfold OfS; rw [Int.toNat_natCast]; exact ⟨fun h => h.2.2, fun h => ⟨by omega, by omega, h⟩⟩
  by_cases c7 : (l : Int) = 7
  · refine Ev.pos c7 (Ev.ret' ?_)
    have : l = 7 := by omega
    subst this
    symm; rw [decide_eq_true_eq, hS]; exact inL_seven x
  refine Ev.neg c7 ?_
  by_cases c6 : (l : Int) = 6
  · refine Ev.pos c6 (Ev.ret' ?_)
    have : l = 6 := by omega
    subst this
    rw [decide_eq_decide, hS]; exact inL_six.symm
  refine Ev.neg c6 ?_
  have hl5 : l ≤ 5 := by omega
  have hl := inL_low (l := l) (by omega) (x := x)
  by_cases c0 : hi x = 0
  · have h32 := two_pow_le_32 hl5
    refine Ev.pos c0 (Ev.pos (Int.natCast_nonneg _) (Ev.pos (by rw [shl_u64 l (by omega)]; exact Int.natCast_nonneg _) (Ev.ret' ?_)))
    show decide (shr .u64 (lo x) _ = 0) = _
    have hlo : lo x = (((lo x).toNat : Nat) : Int) := by have := lo_bd x; omega
    rw [shl_u64 l (by omega), hlo, shr_u64 _ (2 ^ l) (by omega)]
    rw [decide_eq_decide, hS, hl]
    have hq : (lo x).toNat / 2 ^ 2 ^ l = 0 ↔ (lo x).toNat < Q l := by
      rw [Nat.div_eq_zero_iff]; unfold Q
      have := Nat.two_pow_pos (2 ^ l)
      omega
    constructor
    · intro h; exact ⟨c0, hq.1 (by exact_mod_cast h)⟩
    · rintro ⟨_, h⟩; exact_mod_cast hq.2 h
  · refine Ev.neg c0 (Ev.ret' ?_)
    symm; rw [decide_eq_false_iff_not, hS, hl]; exact fun h => c0 h.1
theorem Add_ev (x y : E) : Ev (fun k => tower_Add.f k (toS x) (toS y)) (toS (x + y)) := ⟨0, fun k _ => by
  show some (⟨bits .xor .u64 (hi x) (hi y), bits .xor .u64 (lo x) (lo y)⟩ : S47) = _
  rw [xor_hi, xor_lo]⟩
theorem refAdd_ev (x y : E) : Ev (fun k => steepleref02_Add.f k (toR x) (toR y)) (toR (x + y)) := ⟨0, fun k _ => by
  show some (⟨bits .xor .u64 (hi x) (hi y), bits .xor .u64 (lo x) (lo y)⟩ : S48) = _
  rw [xor_hi, xor_lo]⟩
theorem One_ev : Ev (fun k => tower_One.f k) (toS 1) := ⟨0, fun k _ => by unfold tower_One.f toS; rw [hi_one, lo_one]⟩
theorem toS_zero : toS 0 = z47 := by unfold toS; rw [hi_zero, lo_zero]; rfl
theorem Mul_out {L : Int} {x y : E} (h : ¬ (OfS L x ∧ OfS L y)) : Ev (fun k => tower_Mul.f k L (toS x) (toS y)) (toS 0) := by
  rw [toS_zero]
  unfold tower_Mul.f
  refine Ev.bnd (of_ev L x) ?_
  by_cases c : OfS L x
  · rw [decide_eq_true c]
    refine Ev.neg (by decide) (Ev.bnd (of_ev L y) ?_)
    rw [decide_eq_false (fun g => h ⟨c, g⟩)]
    exact Ev.pos rfl (Ev.ret _)
  · rw [decide_eq_false c]
    exact Ev.pos rfl (Ev.ret _)
theorem Mul_ev {l : Nat} (hl : l ≤ 7) {x y : E} (hx : InL l x) (hy : InL l y) : Ev (fun k => tower_Mul.f k (l : Int) (toS x) (toS y)) (toS (x * y)) := by
  unfold tower_Mul.f
  have hS : ∀ z, InL l z → OfS (l : Int) z := fun z hz => ⟨by omega, by omega, by rw [Int.toNat_natCast]; exact hz⟩
  refine Ev.bnd (of_ev (l : Int) x) ?_
  rw [decide_eq_true (hS x hx)]
  refine Ev.neg (by decide) (Ev.bnd (of_ev (l : Int) y) ?_)
  rw [decide_eq_true (hS y hy)]
  refine Ev.neg (by decide) ?_
  by_cases c : l ≤ 6
  · refine Ev.pos (by omega) ?_
    have ex := (inL_low c).1 hx
    have ey := (inL_low c).1 hy
    have e1 : lo x = (((lo x).toNat : Nat) : Int) := by have := lo_bd x; omega
    have e2 : lo y = (((lo y).toNat : Nat) : Int) := by have := lo_bd y; omega
    have ev := mul_ev l c (lo x).toNat (lo y).toNat ex.2 ey.2
    rw [← e1, ← e2] at ev
    refine Ev.bnd ev (Ev.ret' ?_)
    unfold toS
    have hz := (inL_low c).1 (inL_mul hl hx hy)
    have e3 : lo (x * y) = (((lo (x * y)).toNat : Nat) : Int) := by have := lo_bd (x * y); omega
    rw [hz.1, e3]
    congr 2
    have vx : val x = (lo x).toNat := by rw [val_hl, ex.1]; simp
    have vy : val y = (lo y).toNat := by rw [val_hl, ey.1]; simp
    have vz : val (x * y) = (lo (x * y)).toNat := by rw [val_hl, hz.1]; simp
    rw [← vz, ← vx, ← vy, ← val_mul_level hl hx hy, of_val, of_val]
  · have : l = 7 := by omega
    subst this
    refine Ev.neg (by decide) ?_
    have v1 := val_lt x.1
    have v2 := val_lt x.2
    have v3 := val_lt y.1
    have v4 := val_lt y.2
    have m1 := mul_ev 6 (by decide) _ _ v1 v3
    have m2 := mul_ev 6 (by decide) _ _ v2 v4
    have m3 := mul_ev 6 (by decide) _ _ (xor_lt v1 v2) (xor_lt v3 v4)
    rw [of_val, of_val] at m1 m2
    rw [← val_add, ← val_add, of_val, of_val] at m3
    have m4 := mulX_ev 6 (by decide) _ (val_lt (x.1 * y.1))
    rw [of_val] at m4
    refine Ev.bnd m1 (Ev.bnd m2 ?_)
    have e1 : Go.bits .xor .u64 (hi x) (lo x) = ((val (x.1 + x.2) : Nat) : Int) := by unfold hi lo; rw [xor_u64 _ _ v1 v2, val_add]
    have e2 : Go.bits .xor .u64 (hi y) (lo y) = ((val (y.1 + y.2) : Nat) : Int) := by unfold hi lo; rw [xor_u64 _ _ v3 v4, val_add]
    simp only [toS, e1, e2]
    refine Ev.bnd m3 (Ev.bnd m4 (Ev.ret' ?_))
    rw [xor_u64 _ _ (val_lt _) (val_lt _), ← val_add, xor_u64 _ _ (val_lt _) (val_lt _), ← val_add, xor_u64 _ _ (val_lt _) (val_lt _), ← val_add, xor_u64 _ _ (val_lt _) (val_lt _), ← val_add, karatsuba]
    rfl
theorem toS_f0 (x : E) : (toS x).f0 = hi x := rfl
theorem toS_f1 (x : E) : (toS x).f1 = lo x := rfl
theorem toR_f0 (x : E) : (toR x).f0 = hi x := rfl
theorem toR_f1 (x : E) : (toR x).f1 = lo x := rfl
theorem toR_zero : toR 0 = z48 := by unfold toR; rw [hi_zero, lo_zero]; rfl
theorem toS_el (e : S47) (h : WfS e) : toS (el e.f0 e.f1) = e := by unfold toS; rw [hi_el h.1.1 h.1.2, lo_el h.2.1 h.2.2]
theorem toS_inj {x y : E} (h : toS x = toS y) : x = y := by
  unfold toS at h; injection h with h1 h2; exact hl_inj h1 h2
theorem wf_of {e : S47} (h : (Lit.int .u64 e.f0).wf = true ∧ (Lit.int .u64 e.f1).wf = true) : WfS e := ⟨wf_u64 h.1, wf_u64 h.2⟩
/-- A list that came in is a list of elements. -/
theorem list_of (l : List S47) (h : ∀ e ∈ l, ((Lit.int .u64 e.f0).wf = true) ∧ ((Lit.int .u64 e.f1).wf = true)) : ∃ X : List E, l = X.map toS := by
  refine ⟨l.map fun e => el e.f0 e.f1, ?_⟩
  rw [List.map_map]
  conv => lhs; rw [← List.map_id l]
  apply List.map_congr_left
  intro e he
  exact (toS_el e (wf_of (h e he))).symm
theorem elem_of (e : S47) (h : ((Lit.int .u64 e.f0).wf = true) ∧ ((Lit.int .u64 e.f1).wf = true)) : ∃ x : E, e = toS x := ⟨_, (toS_el e (wf_of h)).symm⟩
theorem rdS (X : List E) (i : Nat) : rd47 (X.map toS) (i : Int) = toS (X.getD i 0) := by
  unfold rd47; rw [Int.toNat_natCast, ← toS_zero, List.getD_eq_getElem?_getD, List.getD_eq_getElem?_getD, List.getElem?_map]
  cases X[i]? <;> rfl
theorem rdR (X : List E) (i : Nat) : rd48 (X.map toR) (i : Int) = toR (X.getD i 0) := by
  unfold rd48; rw [Int.toNat_natCast, ← toR_zero, List.getD_eq_getElem?_getD, List.getD_eq_getElem?_getD, List.getElem?_map]
  cases X[i]? <;> rfl
end Go.Proofs.YtbapldgapbmdkaaGreat.Sp
namespace Go.Proofs.YtbapldgapbmdkaaGreat.Sp
open Go.Proofs.YtbapldgapbmdkaaGreat.V.B Go.RowKit Go.Proofs.YtbapldgapbmdkaaGreat.B Go.Proofs.YtbapldgapbmdkaaGreat.V.B.Ar Go.Proofs.YtbapldgapbmdkaaGreat.V.B.Tw
set_option linter.unusedVariables false
set_option linter.unusedSimpArgs false
/-- Is there such a level? -/
def LvS (L : Int) : Prop := 0 ≤ L ∧ L ≤ 7
instance (L : Int) : Decidable (LvS L) := by unfold LvS; infer_instance
theorem wide_out {L : Int} (h : ¬ LvS L) : Ev (fun k => octet_Wide.f k L) 0 := by
  unfold octet_Wide.f
  by_cases h0 : L < 0
  · exact Ev.pos h0 (Ev.ret _)
  · exact Ev.neg h0 (Ev.pos (by unfold LvS at h; omega) (Ev.ret _))
theorem wide_in {L : Int} (h : LvS L) : ∃ v, v ≠ 0 ∧ Ev (fun k => octet_Wide.f k L) v := by
  obtain ⟨h0, h7⟩ := h
  obtain ⟨l, rfl⟩ := Int.eq_ofNat_of_zero_le h0
  have hstep : ∀ {g : Nat → Option Int} {v : Int}, Ev g v → Ev (fun k => if (l : Int) < 0 then some 0 else if (l : Int) > 7 then some 0 else g k) v := fun hv => Ev.neg (by omega) (Ev.neg (by omega) hv)
  by_cases c : (l : Int) ≤ 3
  · exact ⟨1, by decide, hstep (Ev.pos c (Ev.ret _))⟩
  · have e : wrap64 ((l : Int) - 3) = ((l - 3 : Nat) : Int) := by rw [w64_id (by omega) (by omega)]; omega
    refine ⟨((2 ^ (l - 3) : Nat) : Int), by have := Nat.two_pow_pos (l - 3); omega, hstep (Ev.neg c ?_)⟩
    rw [e]
    exact Ev.pos (Int.natCast_nonneg _) (Ev.ret' (shl_i64 (l - 3) (by omega)))
theorem rdL (l : Nat) (h : l ≤ 7) : rdI ([1, 2, 4, 8, 16, 32, 64, 128] : List Int) (l : Int) = ((2 ^ l : Nat) : Int) := by
  have : ∀ m, m ≤ 7 → rdI ([1, 2, 4, 8, 16, 32, 64, 128] : List Int) ((m : Nat) : Int) = ((2 ^ m : Nat) : Int) := by decide
  exact this l h
theorem and_one_u64 (a n : Nat) (ha : a < 2 ^ 64) (hn : n ≤ 64) : Go.bits .and .u64 (shr .u64 (a : Int) (n : Int)) 1 = if a.testBit n then 1 else 0 := by
  rw [shr_u64 a n hn]
  have hd : a / 2 ^ n < 2 ^ 64 := Nat.lt_of_le_of_lt (Nat.div_le_self _ _) ha
  rw [show (1 : Int) = ((1 : Nat) : Int) from rfl, and_u64 _ 1 hd (by decide), Nat.and_one_is_mod, Nat.testBit_eq_decide_div_mod_eq]
  by_cases c : a / 2 ^ n % 2 = 1
  · rw [c]; simp
  · rw [show a / 2 ^ n % 2 = 0 by omega]; simp
theorem refbit_eq (k : Nat) (x : E) (n : Nat) (hn : n < 128) : steepleref01_bit.f k (toR x) (n : Int) = some (if (val x).testBit n then 1 else 0) := by
  have hx1 := val_lt x.1
  have hx2 := val_lt x.2
  have hQ : Q 6 = 2 ^ 64 := rfl
  rw [hQ] at hx1 hx2
  have hv : val x = 2 ^ 64 * val x.1 + val x.2 := by rw [val_succ, hQ, Nat.mul_comm]
  unfold steepleref01_bit.f
  rw [hv, Nat.testBit_two_pow_mul_add _ hx2]
  unfold toR hi lo
  by_cases c : n < 64
  · have e : IntKind.u64.wrap (n : Int) = (n : Int) := u64_id (by omega) (by omega)
    rw [if_neg (by omega), e, if_pos (Int.natCast_nonneg _), and_one_u64 _ _ hx2 (by omega), if_pos c]
  · have e : IntKind.u64.wrap (wrap64 ((n : Int) - 64)) = ((n - 64 : Nat) : Int) := by
      rw [w64_id (by omega) (by omega), u64_id (by omega) (by omega)]; omega
    rw [if_pos (by omega), e, if_pos (Int.natCast_nonneg _), and_one_u64 _ _ hx1 (by omega), if_neg c]
theorem refbit_ev (x : E) (n : Nat) (hn : n < 128) : Ev (fun k => steepleref01_bit.f k (toR x) (n : Int)) (if (val x).testBit n then 1 else 0) := ⟨0, fun k _ => refbit_eq k x n hn⟩
theorem refOf_l0 (x : E) : ∀ (d n : Nat), n + d = 128 → Ev (fun k => steepleref01_Of.l5 k (n : Int) (hi x) (lo x)) (decide (val x < 2 ^ n)) := by
  intro d
  induction d with
  | zero =>
    intro n hn
    have : n = 128 := by omega
    subst this
    have := val_lt x; rw [Q_seven] at this
    rw [decide_eq_true this]
    exact Ev.step (fun k => by rw [steepleref01_Of.l5]) (Ev.neg (by decide) (Ev.ret _))
  | succ d ih =>
    intro n hn
    have hn' : n < 128 := by omega
    refine Ev.step (fun k => by rw [steepleref01_Of.l5]) ?_
    refine (Ev.pos (by omega) (Ev.bnd (refbit_ev x n hn') ?_))
    simp only [w64_succ hn' (show 128 ≤ 4611686018427387904 by decide)]
    cases c : (val x).testBit n with
    | true =>
      refine Ev.pos (by simp) (Ev.ret' ?_)
      symm; rw [decide_eq_false_iff_not]
      intro h; rw [Nat.testBit_lt_two_pow h] at c; cases c
    | false =>
      refine Ev.neg (by simp) ?_
      have hih := ih (n + 1) (by omega)
      have e : decide (val x < 2 ^ (n + 1)) = decide (val x < 2 ^ n) := by
        rw [decide_eq_decide]
        constructor
        · intro h
          apply Nat.lt_pow_two_of_testBit
          intro i hi
          by_cases e : i = n
          · rw [e]; exact c
          · exact Nat.testBit_lt_two_pow (Nat.lt_of_lt_of_le h (Nat.pow_le_pow_right (by decide) (by omega)))
        · intro h; exact Nat.lt_of_lt_of_le h (Nat.pow_le_pow_right (by decide) (by omega))
      rw [← e]; exact hih
theorem refOf_ev (L : Int) (x : E) : Ev (fun k => steepleref01_Of.f k L (toR x)) (decide (OfS L x)) := by
  unfold steepleref01_Of.f
  by_cases h0 : L < 0
  · refine Ev.pos h0 (Ev.ret' ?_)
    symm; rw [decide_eq_false_iff_not]; rintro ⟨h, _⟩; omega
  refine Ev.neg h0 ?_
  by_cases h7 : L > 7
  · refine Ev.pos h7 (Ev.ret' ?_)
    symm; rw [decide_eq_false_iff_not]; rintro ⟨_, h, _⟩; omega
  refine Ev.neg h7 ?_
  obtain ⟨l, rfl⟩ := Int.eq_ofNat_of_zero_le (show 0 ≤ L by omega)
  refine Ev.pos (Int.natCast_nonneg _) (Ev.pos (by simp; omega) ?_)
  rw [rdL l (by omega)]
  have hp : 2 ^ l ≤ 128 := Nat.pow_le_pow_right (n := 2) (by decide) (show l ≤ 7 by omega)
  have := refOf_l0 x (128 - 2 ^ l) (2 ^ l) (by omega)
  have e : decide (val x < 2 ^ 2 ^ l) = decide (OfS (l : Int) x) := by
    rw [decide_eq_decide]; unfold OfS InL Q; rw [Int.toNat_natCast]
    exact ⟨fun h => ⟨by omega, by omega, h⟩, fun h => h.2.2⟩
  rw [← e]; exact this
/-- All of a level. -/
def AllS (L : Int) (X : List E) : Prop := ∀ x ∈ X, OfS L x
instance (L : Int) (X : List E) : Decidable (AllS L X) := by unfold AllS; infer_instance
theorem allS_drop {L : Int} {X : List E} {i : Nat} (h : i < X.length) : AllS L (X.drop i) ↔ OfS L (X.getD i 0) ∧ AllS L (X.drop (i + 1)) := by
  rw [List.drop_eq_getElem_cons h]
  have : X.getD i 0 = X[i] := by rw [List.getD_eq_getElem?_getD, List.getElem?_eq_getElem h]; rfl
  rw [this]
  exact List.forall_mem_cons
theorem All_l0 (L : Int) (X : List E) (hX : X.length ≤ 1000000) : ∀ (d i : Nat), i + d = X.length → Ev (fun k => steepleref06_All.l2 k L (X.map toR) (i : Int)) (decide (AllS L (X.drop i))) := by
  intro d
  induction d with
  | zero =>
    intro i hi
    refine Ev.step (fun k => by rw [steepleref06_All.l2]) (Ev.neg (by rw [List.length_map]; omega) (Ev.ret' ?_))
    symm; rw [decide_eq_true_eq, List.drop_eq_nil_of_le (by omega)]
    intro x hx; cases hx
  | succ d ih =>
    intro i hi
    have hi' : i < X.length := by omega
    refine Ev.step (fun k => by rw [steepleref06_All.l2]) (Ev.pos (by rw [List.length_map]; omega) (Ev.pos (Int.natCast_nonneg _) (Ev.pos (by rw [List.length_map]; omega) ?_)))
    simp only [rdR, toR_f0, toR_f1, w64_succ hi' (show X.length ≤ 4611686018427387904 by omega)]
    refine Ev.bnd (refOf_ev L _) ?_
    have hd := allS_drop (L := L) hi'
    by_cases c : OfS L (X.getD i 0)
    · refine Ev.neg (by simpa using c) ((ih (i + 1) (by omega)).eqn ?_)
      rw [decide_eq_decide, hd]; exact ⟨fun h => ⟨c, h⟩, fun h => h.2⟩
    · refine Ev.pos (by simpa using c) (Ev.ret' ?_)
      symm; rw [decide_eq_false_iff_not, hd]; exact fun h => c h.1
theorem All_ev (L : Int) (X : List E) (hX : X.length ≤ 1000000) : Ev (fun k => steepleref06_All.f k L (X.map toR)) (decide (AllS L X)) := All_l0 L X hX X.length 0 (by omega)
theorem map_take_succ {α β : Type} (f : α → β) (X : List α) (d : α) (i : Nat) (h : i < X.length) : (X.take (i + 1)).map f = (X.take i).map f ++ [f (X.getD i d)] := by
  rw [List.take_succ_eq_append_getElem h, List.map_append]
  have : X.getD i d = X[i] := by rw [List.getD_eq_getElem?_getD, List.getElem?_eq_getElem h]; rfl
  rw [this]; rfl
theorem Ref_l0 (X : List E) (hX : X.length ≤ 1000000) : ∀ (d i : Nat), i + d = X.length → Ev (fun k => steeplelaw01_Ref.l3 k (X.map toS) (i : Int) ((X.take i).map toR)) (X.map toR) := by
  intro d
  induction d with
  | zero =>
    intro i hi
    refine Ev.step (fun k => by rw [steeplelaw01_Ref.l3]) (Ev.neg (by rw [List.length_map]; omega) (Ev.ret' ?_))
    rw [List.take_of_length_le (by omega)]
  | succ d ih =>
    intro i hi
    have hi' : i < X.length := by omega
    refine Ev.step (fun k => by rw [steeplelaw01_Ref.l3]) (Ev.pos (by rw [List.length_map]; omega) (Ev.pos (Int.natCast_nonneg _) (Ev.pos (by rw [List.length_map]; omega) (Ev.pos (by rw [List.length_map, List.length_take, List.length_singleton]; omega) ?_))))
    simp only [rdS, toS_f0, toS_f1, w64_succ hi' (show X.length ≤ 4611686018427387904 by omega)]
    have hih := ih (i + 1) (by omega)
    rw [map_take_succ toR X 0 i hi'] at hih
    exact hih
theorem Ref_ev (X : List E) (hX : X.length ≤ 1000000) : Ev (fun k => steeplelaw01_Ref.f k (X.map toS)) (X.map toR) := Ref_l0 X hX X.length 0 (by omega)
theorem Same_l0 (X Y : List E) (hl : X.length = Y.length) (hX : X.length ≤ 1000000) : ∀ (d i : Nat), i + d = X.length → (∀ j, j < i → X.getD j 0 = Y.getD j 0) → Ev (fun k => steeplelaw01_Same.l4 k (X.map toS) (Y.map toR) (i : Int)) (decide (X = Y)) := by
  intro d
  induction d with
  | zero =>
    intro i hi h
    refine Ev.step (fun k => by rw [steeplelaw01_Same.l4]) (Ev.neg (by rw [List.length_map]; omega) (Ev.ret' ?_))
    symm; rw [decide_eq_true_eq]
    apply List.ext_getElem hl
    intro j h1 h2
    have := h j (by omega)
    simpa [List.getD_eq_getElem?_getD, h1, h2] using this
  | succ d ih =>
    intro i hid h
    have hi' : i < X.length := by omega
    refine Ev.step (fun k => by rw [steeplelaw01_Same.l4]) (Ev.pos (by rw [List.length_map]; omega) (Ev.pos (Int.natCast_nonneg _) (Ev.pos (by rw [List.length_map]; omega) (Ev.pos (Int.natCast_nonneg _) (Ev.pos (by rw [List.length_map]; omega) ?_)))))
    simp only [rdS, rdR, toS_f0, toS_f1, toR_f0, toR_f1, w64_succ hi' (show X.length ≤ 4611686018427387904 by omega)]
    by_cases c : X.getD i 0 = Y.getD i 0
    · refine Ev.pos (by rw [c]; exact ⟨rfl, rfl⟩) (ih (i + 1) (by omega) (fun j hj => ?_))
      by_cases e : j = i
      · rw [e]; exact c
      · exact h j (by omega)
    · refine Ev.neg (fun h => c (hl_inj h.1 h.2)) (Ev.ret' ?_)
      symm; rw [decide_eq_false_iff_not]
      rintro rfl; exact c rfl
theorem Same_ev (X Y : List E) (hX : X.length ≤ 1000000) : Ev (fun k => steeplelaw01_Same.f k (X.map toS) (Y.map toR)) (decide (X = Y)) := by
  unfold steeplelaw01_Same.f
  by_cases h : X.length = Y.length
  · exact Ev.pos (by rw [List.length_map, List.length_map]; omega) (Same_l0 X Y h hX X.length 0 (by omega) (fun j hj => by omega))
  · refine Ev.neg (by rw [List.length_map, List.length_map]; omega) (Ev.ret' ?_)
    symm; rw [decide_eq_false_iff_not]
    rintro rfl; exact h rfl
/-- The same element? as the program asks. -/
theorem eq_pair (x y : E) : (hi x == hi y && (lo x == lo y)) = decide (x = y) := by
  rw [Bool.eq_iff_iff, Bool.and_eq_true, beq_iff_eq, beq_iff_eq, decide_eq_true_eq]
  exact ⟨fun h => hl_inj h.1 h.2, fun h => by rw [h]; exact ⟨rfl, rfl⟩⟩
theorem eq_none (x : E) : (hi x == 0 && (lo x == 0)) = decide (x = 0) := by
  rw [← eq_pair, hi_zero, lo_zero]
end Go.Proofs.YtbapldgapbmdkaaGreat.Sp
namespace Go.Proofs.YtbapldgapbmdkaaGreat.Sp
open Go.Proofs.YtbapldgapbmdkaaGreat.V.B Go.RowKit Go.Proofs.YtbapldgapbmdkaaGreat.B Go.Proofs.YtbapldgapbmdkaaGreat.V.B.Ar Go.Proofs.YtbapldgapbmdkaaGreat.V.B.Tw
set_option linter.unusedVariables false
set_option linter.unusedSimpArgs false
theorem mask_ev (j : Nat) (hj : j < 6) : Ev (fun k => steepleref02_mask.f k (j : Int)) ((M j 6 : Nat) : Int) := by
  have : ∀ j : Nat, j < 6 → steepleref02_mask.f 0 (j : Int) = some ((M j 6 : Nat) : Int) := by decide +kernel
  exact ⟨0, fun k _ => this j hj⟩
theorem tw_lt {j v : Nat} (hj : j ≤ 6) (hv : v < Q 6) : tw 6 j v < Q 6 := by rw [tw_eq hj hv]; exact val_lt _
theorem shlw (a w : Nat) (hw : w ≤ 64) : shl .u64 (a : Int) (w : Int) = (((a * 2 ^ w) % 2 ^ 64 : Nat) : Int) := by
  unfold shl
  have h64 : IntKind.u64.bits = 64 := rfl
  rw [h64, Int.toNat_natCast, Nat.min_eq_left hw]
  have hc : ((a : Int) * 2 ^ w) = ((a * 2 ^ w : Nat) : Int) := by simp
  rw [hc]
  simp [IntKind.wrap, IntKind.bits, IntKind.signed]
theorem timesWord_ev : ∀ (j : Nat), j ≤ 6 → ∀ (v : Nat), v < Q 6 → Ev (fun k => steepleref02_timesWord.f k ((j : Int) - 1) (v : Int)) ((tw 6 j v : Nat) : Int) := by
  intro j
  induction j with
  | zero =>
    intro _ v hv
    have h0 : (((0 : Nat) : Int) - 1) < 0 := by decide
    refine Ev.step (fun k => by rw [steepleref02_timesWord.f]) (Ev.pos h0 ?_)
    exact Ev.ret' rfl
  | succ j ih =>
    intro hj v hv
    have h32 := two_pow_le_32 (n := j) (by omega)
    have hw : IntKind.u64.wrap (((j + 1 : Nat) : Int) - 1) = (j : Int) := by rw [u64_id (by omega) (by omega)]; omega
    have hw2 : wrap64 (((j + 1 : Nat) : Int) - 1 - 1) = (j : Int) - 1 := by rw [w64_id (by omega) (by omega)]; omega
    have hj1 : (((j + 1 : Nat) : Int) - 1) = (j : Int) := by omega
    have hQ6 : Q 6 = 2 ^ 64 := rfl
    have hM : M j 6 < 2 ^ 64 := by rw [← hQ6]; exact M_lt_Q (by omega)
    have hd : v / 2 ^ 2 ^ j < 2 ^ 64 := Nat.lt_of_le_of_lt (Nat.div_le_self _ _) hv
    have hhi : (v / 2 ^ 2 ^ j) &&& M j 6 < 2 ^ 64 := Nat.and_lt_two_pow _ hM
    have hlo : v &&& M j 6 < 2 ^ 64 := Nat.and_lt_two_pow _ hM
    have hrec := ih (by omega) _ hhi
    have htw : tw 6 j ((v / 2 ^ 2 ^ j) &&& M j 6) < 2 ^ 64 := tw_lt (by omega) hhi
    rw [hj1] at hw hw2 ⊢
    refine Ev.step (fun k => by rw [steepleref02_timesWord.f]) (Ev.neg (by omega) ?_)
    simp only [hw]
    refine Ev.pos (Int.natCast_nonneg _) (Ev.pos (by rw [shl_u64 j (by omega)]; exact Int.natCast_nonneg _) (Ev.bnd (mask_ev j (by omega)) (Ev.bnd (mask_ev j (by omega)) ?_)))
    simp only [shl_u64 j (by omega), shr_u64 v (2 ^ j) (by omega), and_u64 _ _ hd hM, and_u64 _ _ hv hM, hw2]
    refine Ev.bnd hrec (Ev.pos (Int.natCast_nonneg _) (Ev.ret' ?_))
    rw [xor_u64 _ _ hlo htw, shlw _ _ (by omega), or_u64 _ _ (Nat.mod_lt _ (by decide)) hhi]
    rfl
/-- The generator of a level, as an element of the greatest one. -/
def gE (m : Nat) : E := of 7 (val (gen m))
theorem tw_hi {j : Nat} (hj : j ≤ 6) (x : T 6) : tw 6 j (val x) = val (of 6 (val (gen j)) * x) := by rw [tw_eq hj (val_lt x), of_val]
theorem Times_ev (j : Nat) (hj : j ≤ 6) (x : E) : Ev (fun k => steepleref02_Times.f k (j : Int) (toR x)) (toR (gE (j + 1) * x)) := by
  unfold steepleref02_Times.f
  by_cases c : j < 6
  · refine Ev.pos (by omega) ?_
    have h1 := timesWord_ev (j + 1) (by omega) (val x.1) (val_lt x.1)
    have h2 := timesWord_ev (j + 1) (by omega) (val x.2) (val_lt x.2)
    rw [show (((j + 1 : Nat) : Int) - 1) = (j : Int) by omega] at h1 h2
    refine Ev.bnd h1 (Ev.bnd h2 (Ev.ret' ?_))
    have e : gE (j + 1) = up (of 6 (val (gen (j + 1)))) := of_low (Nat.lt_of_lt_of_le (gen_lt (j + 1)) (Q_mono (by omega)))
    rw [e, up_mul_any, tw_hi (by omega), tw_hi (by omega)]; rfl
  · have : j = 6 := by omega
    subst this
    refine Ev.neg (by decide) ?_
    have h1 := timesWord_ev 6 (by omega) (val x.1) (val_lt x.1)
    refine Ev.bnd h1 (Ev.ret' ?_)
    have e : gE 7 = gen 7 := of_val _
    have ev : of 6 (val (gen 6)) = gen 6 := of_val _
    rw [tw_hi (by omega), e, ev]
    unfold toR hi lo
    rw [xor_u64 _ _ (val_lt _) (val_lt _), ← val_add]
    have m1 : (gen 7 * x).1 = x.2 + gen 6 * x.1 := by rw [mul_fst, gen_fst, gen_snd, one_mul, zero_mul, one_mul, add_zero]
    have m2 : (gen 7 * x).2 = x.1 := by rw [mul_snd, gen_fst, gen_snd, one_mul, zero_mul, zero_add]
    rw [m1, m2]
/-- The element with one bit. -/
def bitE (n : Nat) : E := of 7 (2 ^ n)
theorem bitE_hl {n : Nat} (hn : n < 128) : hi (bitE n) = (if n < 64 then 0 else ((2 ^ (n - 64) : Nat) : Int)) ∧ lo (bitE n) = (if n < 64 then ((2 ^ n : Nat) : Int) else 0) := by
  unfold bitE hi lo
  rw [of_succ, mk_fst, mk_snd]
  have hQ : Q 6 = 2 ^ 64 := rfl
  by_cases c : n < 64
  · have h1 : 2 ^ n < Q 6 := by rw [hQ]; exact Nat.pow_lt_pow_right (by decide) c
    rw [if_pos c, if_pos c, Nat.div_eq_of_lt h1, Nat.mod_eq_of_lt h1, val_of _ _ h1, of_zero, val_zero]; exact ⟨rfl, rfl⟩
  · have e : 2 ^ n = 2 ^ (n - 64) * Q 6 + 0 := by rw [hQ, ← Nat.pow_add, Nat.add_zero]; congr 1; omega
    have h2 : 2 ^ (n - 64) < Q 6 := by rw [hQ]; exact Nat.pow_lt_pow_right (by decide) (by omega)
    rw [if_neg c, if_neg c, e, join_div (Q_pos 6), join_mod (Q_pos 6), val_of _ _ h2, of_zero, val_zero]; exact ⟨rfl, rfl⟩
theorem refBit_ev (n : Nat) (hn : n < 128) : Ev (fun k => steepleref02_Bit.f k (n : Int)) (toR (bitE n)) := by
  obtain ⟨h1, h2⟩ := bitE_hl hn
  unfold steepleref02_Bit.f toR
  rw [h1, h2]
  refine Ev.neg (by omega) (Ev.neg (by omega) ?_)
  by_cases c : n < 64
  · rw [if_pos c, if_pos c]
    refine Ev.neg (by omega) ?_
    rw [u64_id (by omega) (by omega)]
    exact Ev.pos (Int.natCast_nonneg _) (Ev.ret' (by rw [shl_u64 n (by omega)]))
  · rw [if_neg c, if_neg c]
    refine Ev.pos (by omega) ?_
    have e : IntKind.u64.wrap (wrap64 ((n : Int) - 64)) = ((n - 64 : Nat) : Int) := by
      rw [w64_id (by omega) (by omega), u64_id (by omega) (by omega)]; omega
    rw [e]
    exact Ev.pos (Int.natCast_nonneg _) (Ev.ret' (by rw [shl_u64 (n - 64) (by omega)]))
theorem and_bit_ne (x n : Nat) : (x &&& 2 ^ n ≠ 0) ↔ x.testBit n = true := by
  constructor
  · intro h
    cases hb : x.testBit n with
    | true => rfl
    | false =>
      exfalso; apply h
      apply Nat.eq_of_testBit_eq
      intro i
      rw [Nat.testBit_and, Nat.zero_testBit]
      by_cases e : i = n
      · subst e; rw [hb, Bool.false_and]
      · rw [Nat.testBit_two_pow_of_ne (by omega), Bool.and_false]
  · intro h e
    have := congrArg (fun z => z.testBit n) e
    simp only [Nat.testBit_and, Nat.testBit_two_pow_self, Bool.and_true, Nat.zero_testBit] at this
    rw [h] at this; cases this
theorem hasBits (x : E) (n : Nat) (hn : n < 128) : ((Go.bits .or .u64 (Go.bits .and .u64 (lo x) (lo (bitE n))) (Go.bits .and .u64 (hi x) (hi (bitE n)))) != 0) = (val x).testBit n := by
  obtain ⟨h1, h2⟩ := bitE_hl hn
  have hx1 := val_lt x.1
  have hx2 := val_lt x.2
  have hQ : Q 6 = 2 ^ 64 := rfl
  rw [hQ] at hx1 hx2
  have hv : val x = 2 ^ 64 * val x.1 + val x.2 := by rw [val_succ, hQ, Nat.mul_comm]
  rw [h1, h2, hv]
  unfold hi lo
  by_cases c : n < 64
  · rw [if_pos c, if_pos c]
    have hp : 2 ^ n < 2 ^ 64 := Nat.pow_lt_pow_right (by decide) c
    have z : (0 : Int) = ((0 : Nat) : Int) := rfl
    rw [z, and_u64 _ _ hx2 hp, and_u64 _ _ hx1 (by decide), or_u64 _ _ (Nat.and_lt_two_pow _ hp) (Nat.and_lt_two_pow _ (by decide)), Nat.and_zero, Nat.or_zero]
    rw [Nat.testBit_two_pow_mul_add _ hx2, if_pos c, Bool.eq_iff_iff, ← and_bit_ne, bne_iff_ne]
    exact ⟨fun h e => h (by rw [e]), fun h e => h (by exact_mod_cast e)⟩
  · rw [if_neg c, if_neg c]
    have hp : 2 ^ (n - 64) < 2 ^ 64 := Nat.pow_lt_pow_right (by decide) (by omega)
    have z : (0 : Int) = ((0 : Nat) : Int) := rfl
    rw [z, and_u64 _ _ hx1 hp, and_u64 _ _ hx2 (by decide), or_u64 _ _ (Nat.and_lt_two_pow _ (by decide)) (Nat.and_lt_two_pow _ hp), Nat.and_zero, Nat.zero_or]
    rw [Nat.testBit_two_pow_mul_add _ hx2, if_neg c, Bool.eq_iff_iff, ← and_bit_ne, bne_iff_ne]
    exact ⟨fun h e => h (by rw [e]), fun h e => h (by exact_mod_cast e)⟩
theorem Has_ev (x : E) (n : Nat) (hn : n < 128) : Ev (fun k => steepleref02_Has.f k (toR x) (n : Int)) ((val x).testBit n) := by
  unfold steepleref02_Has.f
  refine Ev.bnd (refBit_ev n hn) (Ev.ret' (hasBits x n hn))
theorem and_one (n j : Nat) (hn : n < 2 ^ 63) (hj : j ≤ 64) : Go.bits .and .i64 (shr .i64 (n : Int) (j : Int)) 1 = (((n / 2 ^ j) % 2 : Nat) : Int) := by
  rw [shr_i64 n j hj]
  have := and_i64_mask (n / 2 ^ j) 1 (Nat.lt_of_le_of_lt (Nat.div_le_self _ _) hn) (by decide)
  simpa using this
theorem prod_l1 (a b acc : E) (n : Nat) (hn : n < 128) {R : S48} (hk : Ev (fun k => steepleref02_Product.l3 k ((n + 1 : Nat) : Int) (hi a) (lo a) (hi b) (lo b) 0 0 (hi (acc + gp 7 7 n * a)) (lo (acc + gp 7 7 n * a))) R) :
    ∀ (d j : Nat), j + d = 7 → Ev (fun k => steepleref02_Product.l8 k (n : Int) (j : Int) (hi a) (lo a) (hi b) (lo b) 0 0 (hi acc) (lo acc) (hi (gp 7 j n * a)) (lo (gp 7 j n * a))) R := by
  intro d
  induction d with
  | zero =>
    intro j hj
    have : j = 7 := by omega
    subst this
    refine Ev.step (fun k => by rw [steepleref02_Product.l8]) ?_
    refine (Ev.neg (by decide) (Ev.bnd (refAdd_ev acc _) ?_))
    simp only [w64_succ hn (by decide)]
    exact hk
  | succ d ih =>
    intro j hj
    have hu : IntKind.u64.wrap (j : Int) = (j : Int) := u64_id (by omega) (by omega)
    have hih := ih (j + 1) (by omega)
    refine Ev.step (fun k => by rw [steepleref02_Product.l8]) ?_
    refine (Ev.pos (by omega) ?_)
    simp only [hu, and_one n j (Nat.lt_trans hn (by decide)) (by omega), w64_succ (show j < 7 by omega) (by decide)]
    refine Ev.pos (Int.natCast_nonneg _) ?_
    have hgp : gp 7 (j + 1) n = (if n.testBit j then of 7 (val (gen (j + 1))) else 1) * gp 7 j n := rfl
    have htb : n.testBit j = decide ((n / 2 ^ j) % 2 = 1) := by rw [Nat.testBit_eq_decide_div_mod_eq]
    by_cases c : (n / 2 ^ j) % 2 = 1
    · refine Ev.pos (by omega) (Ev.bnd (Times_ev j (by omega) _) ?_)
      rw [hgp, htb, decide_eq_true c, if_pos rfl, mul_assoc] at hih
      exact hih
    · refine Ev.neg (by omega) ?_
      rw [hgp, htb, decide_eq_false c, if_neg (by decide), one_mul] at hih
      exact hih
theorem prod_l0 (a b : E) : ∀ (d n : Nat), n + d = 128 → Ev (fun k => steepleref02_Product.l3 k (n : Int) (hi a) (lo a) (hi b) (lo b) 0 0 (hi (of 7 (val b % 2 ^ n) * a)) (lo (of 7 (val b % 2 ^ n) * a))) (toR (b * a)) := by
  intro d
  induction d with
  | zero =>
    intro n hn
    have : n = 128 := by omega
    subst this
    have hb : val b % 2 ^ 128 = val b := Nat.mod_eq_of_lt (by have := val_lt b; rw [Q_seven] at this; exact this)
    rw [hb, of_val]
    refine Ev.step (fun k => by rw [steepleref02_Product.l3]) ?_
    exact (Ev.neg (by decide) (Ev.ret _))
  | succ d ih =>
    intro n hn
    have hn' : n < 128 := by omega
    have hih := ih (n + 1) (by omega)
    rw [bits_sum (val b) n (val_lt b) (by simpa using hn')] at hih
    refine Ev.step (fun k => by rw [steepleref02_Product.l3]) ?_
    refine (Ev.pos (by omega) (Ev.bnd (Has_ev b n hn') ?_))
    cases c : (val b).testBit n with
    | true =>
      refine Ev.neg (by decide) ?_
      rw [c, if_pos rfl, add_mul, ← gp_bit 7 n (by simpa using hn')] at hih
      have := prod_l1 a b _ n hn' hih 7 0 (by omega)
      have e0 : gp 7 0 n * a = a := one_mul a
      rw [e0] at this
      exact this
    | false =>
      refine Ev.pos rfl ?_
      rw [c, if_neg (by decide), add_zero] at hih
      simp only [w64_succ hn' (by decide)]
      exact hih
theorem Product_ev (x y : E) : Ev (fun k => steepleref02_Product.f k (toR x) (toR y)) (toR (x * y)) := by
  unfold steepleref02_Product.f
  have := prod_l0 x y 128 0 (by decide)
  rw [Nat.pow_zero, Nat.mod_one, of_zero, zero_mul, hi_zero, lo_zero, mul_comm y x] at this
  exact this
end Go.Proofs.YtbapldgapbmdkaaGreat.Sp
namespace Go.Proofs.YtbapldgapbmdkaaGreat.Sp
open Go.Proofs.YtbapldgapbmdkaaGreat.V.B Go.RowKit Go.Proofs.YtbapldgapbmdkaaGreat.B Go.Proofs.YtbapldgapbmdkaaGreat.V.B.Ar Go.Proofs.YtbapldgapbmdkaaGreat.V.B.Tw
set_option linter.unusedVariables false
set_option linter.unusedSimpArgs false
/-- Sums. -/
def sumN (f : Nat → E) : Nat → E
  | 0 => 0
  | n + 1 => sumN f n + f n
theorem sumN_congr {f g : Nat → E} : ∀ n, (∀ i, i < n → f i = g i) → sumN f n = sumN g n
  | 0, _ => rfl
  | n + 1, h => by rw [sumN, sumN, sumN_congr n (fun i hi => h i (by omega)), h n (by omega)]
theorem sumN_add (f g : Nat → E) : ∀ n, sumN (fun i => f i + g i) n = sumN f n + sumN g n
  | 0 => (add_zero _).symm
  | n + 1 => by
    rw [sumN, sumN, sumN, sumN_add f g n]
    simp only [add_assoc, add_left_comm]
theorem sumN_mul (c : E) (f : Nat → E) : ∀ n, sumN (fun i => c * f i) n = c * sumN f n
  | 0 => (mul_zero _).symm
  | n + 1 => by rw [sumN, sumN, sumN_mul c f n, mul_add]
theorem sumN_zero : ∀ n, sumN (fun _ => (0 : E)) n = 0
  | 0 => rfl
  | n + 1 => by rw [sumN, sumN_zero n, add_zero]
theorem sumN_double (f : Nat → E) : ∀ n, sumN f (2 * n) = sumN (fun i => f (2 * i) + f (2 * i + 1)) n
  | 0 => rfl
  | n + 1 => by
    rw [show 2 * (n + 1) = 2 * n + 1 + 1 by omega, sumN, sumN, sumN, sumN_double f n, add_assoc]
theorem sumN_split (f : Nat → E) (m : Nat) : ∀ n, sumN f (m + n) = sumN f m + sumN (fun i => f (m + i)) n
  | 0 => (add_zero _).symm
  | n + 1 => by rw [← Nat.add_assoc, sumN, sumN, sumN_split f m n, add_assoc]
/-- A corner's weight at a point. -/
def weight : List E → Nat → E
  | [], _ => 1
  | p :: ps, i => (if i % 2 = 1 then p else 1 + p) * weight ps (i / 2)
/-- A table's value at a point. -/
def value (X P : List E) : E := sumN (fun i => X.getD i 0 * weight P i) X.length
/-- A table bound in its first variable. -/
def first (r : E) (X : List E) : List E := (List.range (X.length / 2)).map fun i => X.getD (2 * i) 0 + r * (X.getD (2 * i) 0 + X.getD (2 * i + 1) 0)
def firsts : List E → List E → List E
  | [], X => X
  | r :: rs, X => firsts rs (first r X)
theorem first_length (r : E) (X : List E) : (first r X).length = X.length / 2 := by simp [first]
theorem first_getD (r : E) (X : List E) (i : Nat) (h : i < X.length / 2) : (first r X).getD i 0 = X.getD (2 * i) 0 + r * (X.getD (2 * i) 0 + X.getD (2 * i + 1) 0) := by
  rw [List.getD_eq_getElem?_getD]; simp [first, h]
theorem between_eq (a b r : E) : a + r * (a + b) = (1 + r) * a + r * b := by
  rw [add_mul, one_mul, mul_add, add_assoc]
theorem value_first (X : List E) (r : E) (P : List E) (h : X.length = 2 * (X.length / 2)) : value X (r :: P) = value (first r X) P := by
  unfold value
  rw [first_length]
  conv => lhs; rw [h]
  rw [sumN_double]
  apply sumN_congr
  intro i hi
  rw [first_getD r X i hi, weight, weight, if_neg (by omega), if_pos (by omega), show 2 * i / 2 = i by omega, show (2 * i + 1) / 2 = i by omega, between_eq]
  rw [← mul_assoc, ← mul_assoc, mul_comm (X.getD (2 * i) 0), mul_comm (X.getD (2 * i + 1) 0), ← add_mul]
theorem pow_len {X : List E} {k : Nat} (h : X.length = 2 ^ (k + 1)) : X.length = 2 * (X.length / 2) := by rw [h, Nat.pow_succ]; omega
theorem firsts_length : ∀ (R X : List E) (k : Nat), X.length = 2 ^ k → R.length ≤ k → (firsts R X).length = 2 ^ (k - R.length)
  | [], X, k, h, _ => by rw [firsts, h]; rfl
  | r :: rs, X, k, h, hk => by
    rw [List.length_cons] at hk
    obtain ⟨k', rfl⟩ : ∃ k', k = k' + 1 := ⟨k - 1, by omega⟩
    rw [firsts, firsts_length rs (first r X) k' (by rw [first_length, h, Nat.pow_succ]; omega) (by omega), List.length_cons]
    congr 1; omega
theorem value_firsts : ∀ (R X P : List E) (k : Nat), X.length = 2 ^ k → R.length ≤ k → value X (R ++ P) = value (firsts R X) P
  | [], X, P, k, _, _ => rfl
  | r :: rs, X, P, k, h, hk => by
    rw [List.length_cons] at hk
    obtain ⟨k', rfl⟩ : ∃ k', k = k' + 1 := ⟨k - 1, by omega⟩
    rw [List.cons_append, value_first X r (rs ++ P) (pow_len h), firsts]
    exact value_firsts rs (first r X) P k' (by rw [first_length, h, Nat.pow_succ]; omega) (by omega)
theorem value_nil {X : List E} (h : X.length = 1) : value X [] = X.getD 0 0 := by
  unfold value; rw [h, sumN, sumN, zero_add, weight, mul_one]
theorem value_eq (X P : List E) (h : X.length = 2 ^ P.length) : value X P = (firsts P X).getD 0 0 := by
  have := value_firsts P X [] P.length h (Nat.le_refl _)
  rw [List.append_nil] at this
  rw [this, value_nil (by rw [firsts_length P X P.length h (Nat.le_refl _), Nat.sub_self, Nat.pow_zero])]

/-- k of 2^k, as both tell it. -/
theorem map_set {α β : Type} (f : α → β) (X : List α) (i : Nat) (x : α) : (X.map f).set i (f x) = (X.set i x).map f := by rw [List.map_set]
theorem toS_mk (x : E) : (⟨hi x, lo x⟩ : S47) = toS x := rfl
theorem toR_mk (x : E) : (⟨hi x, lo x⟩ : S48) = toR x := rfl
theorem getD_set_self {X : List E} {i : Nat} (h : i < X.length) (x : E) : (X.set i x).getD i 0 = x := by
  rw [List.getD_eq_getElem?_getD, List.getElem?_set_self h]; rfl
theorem getD_set_ne {X : List E} {i j : Nat} (h : i ≠ j) (x : E) : (X.set i x).getD j 0 = X.getD j 0 := by
  rw [List.getD_eq_getElem?_getD, List.getD_eq_getElem?_getD, List.getElem?_set_ne h]
theorem ext_getD {X Y : List E} (hl : X.length = Y.length) (h : ∀ i, i < X.length → X.getD i 0 = Y.getD i 0) : X = Y := by
  apply List.ext_getElem hl
  intro j h1 h2
  have := h j h1
  simpa [List.getD_eq_getElem?_getD, h1, h2] using this
theorem getD_take {X : List E} {i m : Nat} (h : i < m) : (X.take m).getD i 0 = X.getD i 0 := by
  rw [List.getD_eq_getElem?_getD, List.getD_eq_getElem?_getD, List.getElem?_take_of_lt h]
theorem allS_getD {l : Nat} {X : List E} (h : AllS (l : Int) X) (i : Nat) : InL l (X.getD i 0) := by
  rw [List.getD_eq_getElem?_getD]
  by_cases c : i < X.length
  · rw [List.getElem?_eq_getElem c]
    have := (h _ (List.getElem_mem c)).2.2
    rw [Int.toNat_natCast] at this; exact this
  · rw [List.getElem?_eq_none (by omega)]; exact inL_zero l
theorem allS_first {l : Nat} (hl : l ≤ 7) {X : List E} {r : E} (hX : AllS (l : Int) X) (hr : InL l r) : AllS (l : Int) (first r X) := by
  intro x hx
  unfold first at hx
  rw [List.mem_map] at hx
  obtain ⟨i, _, rfl⟩ := hx
  refine ⟨by omega, by omega, ?_⟩
  rw [Int.toNat_natCast]
  exact inL_add (allS_getD hX _) (inL_mul hl hr (inL_add (allS_getD hX _) (allS_getD hX _)))
theorem half_len (n : Nat) (h : n ≤ 1000000) : wrap64 ((n : Int) / 2) = ((n / 2 : Nat) : Int) := by rw [w64_id (by omega) (by omega)]; omega
theorem w64_dbl {i : Nat} (h : i ≤ 1000000) : wrap64 (2 * (i : Int)) = ((2 * i : Nat) : Int) := by rw [w64_id (by omega) (by omega)]; omega
end Go.Proofs.YtbapldgapbmdkaaGreat.Sp
namespace Go.Proofs.YtbapldgapbmdkaaGreat.Sp
open Go.Proofs.YtbapldgapbmdkaaGreat.V.B Go.RowKit Go.Proofs.YtbapldgapbmdkaaGreat.B Go.Proofs.YtbapldgapbmdkaaGreat.V.B.Ar Go.Proofs.YtbapldgapbmdkaaGreat.V.B.Tw
set_option linter.unusedVariables false
/-- The pair of x and y: y beside each bit that x has. -/
def pick (b : Bool) (y : E) : E := if b then y else 0
theorem pick_true (y : E) : pick true y = y := if_pos rfl
theorem pick_false (y : E) : pick false y = 0 := if_neg Bool.false_ne_true
def pairX (n : Nat) (x y : E) : List E := (List.range n).map fun i => pick ((val x).testBit i) y
theorem pairX_length (n : Nat) (x y : E) : (pairX n x y).length = n := by simp [pairX]
theorem getD_rangeM {α : Type} (f : Nat → α) (d : α) (n i : Nat) (h : i < n) : ((List.range n).map f).getD i d = f i := by
  rw [List.getD_eq_getElem?_getD, List.getElem?_map, List.getElem?_range h]; rfl
theorem range_succM {α : Type} (f : Nat → α) (n : Nat) : (List.range (n + 1)).map f = (List.range n).map f ++ [f n] := by
  rw [List.range_succ, List.map_append]; rfl
theorem pairX_getD (n : Nat) (x y : E) (i : Nat) (h : i < n) : (pairX n x y).getD i 0 = pick ((val x).testBit i) y := getD_rangeM (fun i => pick ((val x).testBit i) y) 0 n i h
theorem pairX_succ (n : Nat) (x y : E) : pairX (n + 1) x y = pairX n x y ++ [pick ((val x).testBit n) y] := range_succM _ n
theorem w128 {l : Nat} (hl : l ≤ 7) : 2 ^ l ≤ 128 := Nat.pow_le_pow_right (n := 2) (by decide) hl
theorem lv_of {L : Int} {x : E} (h : OfS L x) : LvS L := ⟨h.1, h.2.1⟩
theorem rep_zero (n : Nat) : List.replicate n z47 = (List.replicate n (0 : E)).map toS := by rw [List.map_replicate, toS_zero]
def leftO (L : Int) (x : E) : List E := if OfS L x then pairX (2 ^ L.toNat) x 1 else []
def rightO (L : Int) (x : E) : List E := if OfS L x then pairX (2 ^ L.toNat) 1 x else []
theorem one_bit (i : Nat) : (val (1 : E)).testBit i = decide (i = 0) := by
  rw [val_one, show (1 : Nat) = 2 ^ 0 from rfl, Nat.testBit_two_pow]
  simp [eq_comm]
theorem pairX_one (n : Nat) (x : E) (hn : 0 < n) : pairX n 1 x = (List.replicate n (0 : E)).set 0 x := by
  apply List.ext_getElem
  · rw [pairX_length]; simp
  · intro i h1 h2
    rw [pairX_length] at h1
    have e1 : (pairX n 1 x)[i] = (pairX n 1 x).getD i 0 := by rw [List.getD_eq_getElem?_getD, List.getElem?_eq_getElem (by rw [pairX_length]; exact h1)]; rfl
    rw [e1, pairX_getD n 1 x i h1, one_bit, List.getElem_set]
    by_cases c : i = 0
    · subst c; simp [pick_true]
    · rw [decide_eq_false c, pick_false, if_neg (fun h => c h.symm), List.getElem_replicate]
end Go.Proofs.YtbapldgapbmdkaaGreat.Sp
namespace Go.Proofs.YtbapldgapbmdkaaGreat.Sp
open Go.Proofs.YtbapldgapbmdkaaGreat.V.B Go.RowKit Go.Proofs.YtbapldgapbmdkaaGreat.B Go.Proofs.YtbapldgapbmdkaaGreat.V.B.Ar Go.Proofs.YtbapldgapbmdkaaGreat.V.B.Tw
set_option linter.unusedVariables false
theorem pick_add (b : Bool) (y z : E) : pick b (y + z) = pick b y + pick b z := by
  cases b
  · rw [pick_false, pick_false, pick_false, add_zero]
  · rw [pick_true, pick_true, pick_true]
theorem pick_mul (b : Bool) (y z : E) : pick b (y * z) = pick b y * z := by
  cases b
  · rw [pick_false, pick_false, zero_mul]
  · rw [pick_true, pick_true]
theorem pick_zero (b : Bool) : pick b (0 : E) = 0 := by
  cases b
  · exact pick_false _
  · exact pick_true _
theorem pick_xor (a b : Bool) (y : E) : pick (a ^^ b) y = pick a y + pick b y := by
  cases a <;> cases b
  · show pick false y = _; rw [pick_false, add_zero]
  · show pick true y = _; rw [pick_false, pick_true, zero_add]
  · show pick true y = _; rw [pick_false, pick_true, add_zero]
  · show pick false y = _; rw [pick_false, pick_true, add_self]
theorem pick_comm (a b : Bool) (y : E) : pick a (pick b y) = pick b (pick a y) := by
  cases a <;> cases b <;> simp only [pick_true, pick_false]
/-- Has an element the bit? -/
def hasB (x : E) (k : Nat) : Bool := (val x).testBit k
theorem hasB_add (x y : E) (k : Nat) : hasB (x + y) k = (hasB x k ^^ hasB y k) := by
  unfold hasB; rw [val_add, Nat.testBit_xor]
theorem hasB_zero (k : Nat) : hasB 0 k = false := by unfold hasB; rw [val_zero, Nat.zero_testBit]
/-- What the bit k of z picks of y is a sum in z. -/
theorem pick_hasB_add (x z y : E) (k : Nat) : pick (hasB (x + z) k) y = pick (hasB x k) y + pick (hasB z k) y := by rw [hasB_add, pick_xor]
theorem pick_hasB_sum (f : Nat → E) (y : E) (k : Nat) : ∀ n, pick (hasB (sumN f n) k) y = sumN (fun u => pick (hasB (f u) k) y) n
  | 0 => by rw [sumN, sumN, hasB_zero, pick_false]
  | n + 1 => by rw [sumN, sumN, pick_hasB_add, pick_hasB_sum f y k n]
theorem pick_hasB_pick (b : Bool) (x y : E) (k : Nat) : pick (hasB (pick b x) k) y = pick b (pick (hasB x k) y) := by
  cases b
  · rw [pick_false, pick_false, hasB_zero, pick_false]
  · rw [pick_true, pick_true]
theorem pick_sum (b : Bool) (f : Nat → E) : ∀ n, pick b (sumN f n) = sumN (fun u => pick b (f u)) n
  | 0 => pick_zero b
  | n + 1 => by rw [sumN, sumN, pick_add, pick_sum b f n]
theorem sumN_mulr (c : E) (f : Nat → E) (n : Nat) : sumN (fun i => f i * c) n = sumN f n * c := by
  rw [mul_comm, ← sumN_mul]
  exact sumN_congr n (fun i _ => mul_comm _ _)
theorem sumN_swap (f : Nat → Nat → E) (n : Nat) : ∀ m, sumN (fun i => sumN (fun j => f i j) m) n = sumN (fun j => sumN (fun i => f i j) n) m
  | 0 => sumN_zero n
  | m + 1 => by
    rw [sumN, ← sumN_swap f n m, ← sumN_add]
    exact sumN_congr n (fun i _ => rfl)
theorem sumN_one (f : Nat → E) (n i : Nat) (hi : i < n) (h : ∀ j, j < n → j ≠ i → f j = 0) : sumN f n = f i := by
  induction n with
  | zero => omega
  | succ n ih =>
    rw [sumN]
    by_cases c : i = n
    · subst c
      have : sumN f i = 0 := by
        rw [sumN_congr (g := fun _ => 0) i (fun j hj => h j (by omega) (by omega))]; exact sumN_zero i
      rw [this, zero_add]
    · rw [ih (by omega) (fun j hj hne => h j (by omega) hne), h n (by omega) (fun e => c e.symm), add_zero]
theorem val_bitE {n : Nat} (hn : n < 128) : val (bitE n) = 2 ^ n := by
  unfold bitE
  exact val_of 7 _ (by rw [Q_seven]; exact Nat.pow_lt_pow_right (by decide) hn)
theorem val_pick (b : Bool) (x : E) : val (pick b x) = if b then val x else 0 := by
  cases b
  · rw [pick_false, val_zero]; rfl
  · rw [pick_true]; rfl
/-- An element is the sum of its bits. -/
theorem val_expand (x : E) : ∀ n, n ≤ 128 → val (sumN (fun u => pick (hasB x u) (bitE u)) n) = val x % 2 ^ n
  | 0, _ => by rw [sumN, val_zero, Nat.pow_zero, Nat.mod_one]
  | n + 1, h => by
    rw [sumN, val_add, val_expand x n (by omega), val_pick, val_bitE (by omega)]
    apply Nat.eq_of_testBit_eq
    intro j
    rw [Nat.testBit_xor, Nat.testBit_mod_two_pow, Nat.testBit_mod_two_pow]
    show _ = _
    unfold hasB
    generalize val x = v
    by_cases c : j = n
    · subst c
      cases hb : v.testBit j with
      | true => rw [if_pos rfl, Nat.testBit_two_pow_self]; simp
      | false => rw [if_neg Bool.false_ne_true, Nat.zero_testBit]; simp
    · have h2 : (if v.testBit n then 2 ^ n else 0 : Nat).testBit j = false := by
        cases v.testBit n with
        | true => rw [if_pos rfl, Nat.testBit_two_pow]; simp; omega
        | false => rw [if_neg Bool.false_ne_true, Nat.zero_testBit]
      rw [h2, Bool.xor_false]
      have : decide (j < n + 1) = decide (j < n) := by rw [decide_eq_decide]; omega
      rw [this]
theorem expand {l : Nat} (hl : l ≤ 7) {x : E} (hx : InL l x) : sumN (fun u => pick (hasB x u) (bitE u)) (2 ^ l) = x := by
  apply val_inj
  rw [val_expand x (2 ^ l) (w128 hl)]
  exact Nat.mod_eq_of_lt hx
theorem bitE_in {l u : Nat} (hl : l ≤ 7) (hu : u < 2 ^ l) : InL l (bitE u) := by
  unfold InL Q
  rw [val_bitE (Nat.lt_of_lt_of_le hu (w128 hl))]
  exact Nat.pow_lt_pow_right (by decide) hu
theorem bitE_zero : bitE 0 = 1 := by
  apply val_inj; rw [val_bitE (by decide), val_one]
/-- The bits of a product are sums of those of the products of bits. -/
theorem has_mul {l : Nat} (hl : l ≤ 7) {x : E} (hx : InL l x) (a y : E) (k : Nat) : sumN (fun u => pick (hasB x u) (pick (hasB (bitE u * a) k) y)) (2 ^ l) = pick (hasB (x * a) k) y := by
  have h1 : x * a = sumN (fun u => pick (hasB x u) (bitE u * a)) (2 ^ l) := by
    conv => lhs; rw [← expand hl hx]
    rw [← sumN_mulr]
    exact sumN_congr _ (fun u _ => (pick_mul _ _ _).symm)
  rw [h1, pick_hasB_sum]
  exact sumN_congr _ (fun u _ => (pick_hasB_pick _ _ _ _).symm)
/-- Part k of a tensor times an element on the left, its parts times another one. -/
def actT (n : Nat) (t : Nat → E) (a p : E) (k : Nat) : E := sumN (fun u => pick (hasB (bitE u * a) k) (t u * p)) n
theorem actT_pair {l : Nat} (hl : l ≤ 7) {x : E} (hx : InL l x) (y a p : E) (k : Nat) : actT (2 ^ l) (fun u => pick (hasB x u) y) a p k = pick (hasB (x * a) k) (y * p) := by
  unfold actT
  rw [← has_mul hl hx a (y * p) k]
  exact sumN_congr _ (fun u _ => by rw [← pick_mul, pick_comm])
theorem actT_congr (n : Nat) {t s : Nat → E} (a p : E) (k : Nat) (h : ∀ u, u < n → t u = s u) : actT n t a p k = actT n s a p k := by
  unfold actT; exact sumN_congr _ (fun u hu => by rw [h u hu])
theorem actT_sum (n m : Nat) (t : Nat → Nat → E) (a p : E) (k : Nat) : actT n (fun u => sumN (fun i => t i u) m) a p k = sumN (fun i => actT n (t i) a p k) m := by
  unfold actT
  rw [sumN_swap (fun i u => pick (hasB (bitE u * a) k) (t i u * p)) m n]
  exact sumN_congr _ (fun u _ => by rw [← sumN_mulr, pick_sum])
theorem actT_add (n : Nat) (t s : Nat → E) (a p : E) (k : Nat) : actT n (fun u => t u + s u) a p k = actT n t a p k + actT n s a p k := by
  unfold actT
  rw [← sumN_add]
  exact sumN_congr _ (fun u _ => by rw [add_mul, pick_add])
theorem pick_in {l : Nat} {x : E} (b : Bool) (h : InL l x) : InL l (pick b x) := by
  cases b
  · rw [pick_false]; exact inL_zero l
  · rw [pick_true]; exact h
theorem sumN_in {l : Nat} (f : Nat → E) : ∀ n, (∀ i, i < n → InL l (f i)) → InL l (sumN f n)
  | 0, _ => inL_zero l
  | n + 1, h => by rw [sumN]; exact inL_add (sumN_in f n (fun i hi => h i (by omega))) (h n (by omega))
theorem actT_in {l : Nat} (hl : l ≤ 7) (n : Nat) (t : Nat → E) (a p : E) (k : Nat) (ht : ∀ u, u < n → InL l (t u)) (hp : InL l p) : InL l (actT n t a p k) :=
  sumN_in _ n (fun u hu => pick_in _ (inL_mul hl (ht u hu) hp))
/-- Weights, variable by variable from behind. -/
theorem weight_in {l : Nat} (hl : l ≤ 7) : ∀ (P : List E) (i : Nat), (∀ p ∈ P, InL l p) → InL l (weight P i)
  | [], i, _ => inL_one l
  | p :: ps, i, h => by
    have hp := h p List.mem_cons_self
    rw [weight]
    refine inL_mul hl ?_ (weight_in hl ps (i / 2) (fun q hq => h q (List.mem_cons_of_mem _ hq)))
    split
    · exact hp
    · exact inL_add (inL_one l) hp
theorem weight_snoc (p : E) : ∀ (P : List E) (i : Nat), weight (P ++ [p]) i = weight P i * (if i / 2 ^ P.length % 2 = 1 then p else 1 + p)
  | [], i => by
    show weight (p :: []) i = weight [] i * _
    rw [weight, weight, weight, mul_one, one_mul]
    simp
  | q :: Q, i => by
    show weight (q :: (Q ++ [p])) i = weight (q :: Q) i * _
    rw [weight, weight, weight_snoc p Q (i / 2), mul_assoc, Nat.div_div_eq_div_mul, List.length_cons, Nat.pow_succ, Nat.mul_comm 2]
theorem weight_high (b : Nat) : ∀ (P : List E) (i : Nat), i < 2 ^ P.length → weight P (2 ^ P.length * b + i) = weight P i
  | [], i, _ => rfl
  | q :: Q, i, h => by
    rw [List.length_cons, Nat.pow_succ] at h
    have e1 : (2 ^ (q :: Q).length * b + i) % 2 = i % 2 := by
      rw [List.length_cons, Nat.pow_succ, Nat.mul_comm (2 ^ Q.length) 2, Nat.mul_assoc]; omega
    have e2 : (2 ^ (q :: Q).length * b + i) / 2 = 2 ^ Q.length * b + i / 2 := by
      rw [List.length_cons, Nat.pow_succ, Nat.mul_comm (2 ^ Q.length) 2, Nat.mul_assoc]; omega
    rw [weight, weight, e1, e2, weight_high b Q (i / 2) (by omega)]
theorem weight_low (p : E) (P : List E) (i : Nat) (h : i < 2 ^ P.length) : weight (P ++ [p]) i = weight P i * (1 + p) := by
  rw [weight_snoc, Nat.div_eq_of_lt h]; rfl
theorem weight_up (p : E) (P : List E) (i : Nat) (h : i < 2 ^ P.length) : weight (P ++ [p]) (2 ^ P.length + i) = weight P i * p := by
  have h0 := weight_high 1 P i h
  rw [Nat.mul_one] at h0
  have e : (2 ^ P.length + i) / 2 ^ P.length % 2 = 1 := by
    rw [Nat.add_div_left _ (Nat.two_pow_pos _), Nat.div_eq_of_lt h]
  rw [weight_snoc, h0, e]; rfl
/-- How alike two points are, part by part. -/
def alikeX (P R : List E) (k : Nat) : E := sumN (fun i => pick (hasB (weight P i) k) (weight R i)) (2 ^ P.length)
theorem alikeX_nil (k : Nat) : alikeX [] [] k = pick (hasB 1 k) 1 := by
  unfold alikeX
  show sumN _ 1 = _
  rw [sumN, sumN, zero_add]; rfl
theorem alikeX_snoc {l : Nat} (hl : l ≤ 7) (P R : List E) (p r : E) (hP : ∀ x ∈ P, InL l x) (hlen : P.length = R.length) (k : Nat) :
    alikeX (P ++ [p]) (R ++ [r]) k = alikeX P R k + actT (2 ^ l) (alikeX P R) p 1 k + alikeX P R k * r := by
  have e1 : actT (2 ^ l) (alikeX P R) p 1 k = sumN (fun i => pick (hasB (weight P i * p) k) (weight R i)) (2 ^ P.length) := by
    unfold alikeX
    rw [actT_sum]
    exact sumN_congr _ (fun i _ => by rw [actT_pair hl (weight_in hl P i hP), mul_one])
  have e2 : alikeX P R k * r = sumN (fun i => pick (hasB (weight P i) k) (weight R i * r)) (2 ^ P.length) := by
    unfold alikeX
    rw [← sumN_mulr]
    exact sumN_congr _ (fun i _ => (pick_mul _ _ _).symm)
  rw [e1, e2]
  unfold alikeX
  rw [← sumN_add, ← sumN_add, List.length_append, List.length_singleton, Nat.pow_succ, Nat.mul_two, sumN_split, ← sumN_add]
  apply sumN_congr
  intro i hi
  have hi' : i < 2 ^ R.length := by rw [← hlen]; exact hi
  rw [weight_low p P i hi, weight_up p P i hi, weight_low r R i hi', show 2 ^ P.length + i = 2 ^ R.length + i by rw [hlen], weight_up r R i hi']
  generalize weight P i = w
  generalize weight R i = v
  rw [mul_add, mul_add, mul_one, mul_one, pick_hasB_add, pick_add, pick_add]
  generalize pick (hasB w k) v = a
  generalize pick (hasB (w * p) k) v = b
  generalize pick (hasB w k) (v * r) = c
  generalize pick (hasB (w * p) k) (v * r) = d
  have : a + c + (b + d) + d = a + b + c := by
    rw [add_assoc (a + c), add_assoc b d d, add_self, add_zero, add_assoc a c b, add_comm c b, ← add_assoc]
  exact this
end Go.Proofs.YtbapldgapbmdkaaGreat.Sp
namespace Go.Proofs.YtbapldgapbmdkaaGreat.Sp
open Go.Proofs.YtbapldgapbmdkaaGreat.V.B Go.RowKit Go.Proofs.YtbapldgapbmdkaaGreat.B Go.Proofs.YtbapldgapbmdkaaGreat.V.B.Ar Go.Proofs.YtbapldgapbmdkaaGreat.V.B.Tw
set_option linter.unusedVariables false
/-- A list of so many elements. -/
def tabL (n : Nat) (f : Nat → E) : List E := (List.range n).map f
theorem tabL_length (n : Nat) (f : Nat → E) : (tabL n f).length = n := by simp [tabL]
theorem tabL_getD (n : Nat) (f : Nat → E) (i : Nat) (h : i < n) : (tabL n f).getD i 0 = f i := getD_rangeM f 0 n i h
theorem tabL_congr (n : Nat) {f g : Nat → E} (h : ∀ i, i < n → f i = g i) : tabL n f = tabL n g := by
  unfold tabL
  apply List.map_congr_left
  intro i hi
  exact h i (List.mem_range.1 hi)
theorem tabL_self (X : List E) : tabL X.length (fun i => X.getD i 0) = X := by
  apply ext_getD (tabL_length _ _)
  intro i hi
  rw [tabL_length] at hi
  exact tabL_getD _ _ i hi
theorem tabL_set (n : Nat) (f g : Nat → E) (i : Nat) (hi : i < n) (hg : ∀ k, k < n → k ≠ i → g k = f k) : (tabL n f).set i (g i) = tabL n g := by
  apply ext_getD
  · rw [List.length_set, tabL_length, tabL_length]
  · intro k hk
    rw [List.length_set, tabL_length] at hk
    rw [tabL_getD n g k hk]
    by_cases c : i = k
    · subst c
      exact getD_set_self (by rw [tabL_length]; exact hi) _
    · rw [getD_set_ne c, tabL_getD n f k hk, hg k hk (fun e => c e.symm)]
theorem tabL_replicate (n : Nat) : List.replicate n (0 : E) = tabL n (fun _ => 0) := by
  apply ext_getD
  · rw [List.length_replicate, tabL_length]
  · intro i hi
    rw [List.length_replicate] at hi
    rw [tabL_getD n _ i hi, List.getD_eq_getElem?_getD, List.getElem?_replicate, if_pos hi]; rfl
theorem tabL_all {l : Nat} (hl : l ≤ 7) (n : Nat) (f : Nat → E) (h : ∀ i, i < n → InL l (f i)) : AllS (l : Int) (tabL n f) := by
  intro x hx
  unfold tabL at hx
  obtain ⟨i, hi, rfl⟩ := List.mem_map.1 hx
  exact ⟨by omega, by omega, by rw [Int.toNat_natCast]; exact h i (List.mem_range.1 hi)⟩
theorem ofS_of {l : Nat} (hl : l ≤ 7) {x : E} (h : InL l x) : OfS (l : Int) x := ⟨by omega, by omega, by rw [Int.toNat_natCast]; exact h⟩
theorem inL_of {l : Nat} {x : E} (h : OfS (l : Int) x) : InL l x := by have := h.2.2; rwa [Int.toNat_natCast] at this
/-- One product's bits, each with y, added to what there is. -/
def bitAdd (f : Nat → E) (z y : E) (i k : Nat) : E := f k + pick (decide (k < i) && hasB z k) y
theorem bitAdd_zero (f : Nat → E) (z y : E) (k : Nat) : bitAdd f z y 0 k = f k := by
  unfold bitAdd
  rw [decide_eq_false (Nat.not_lt_zero k), Bool.false_and, pick_false, add_zero]
theorem bitAdd_at (f : Nat → E) (z y : E) (i : Nat) : bitAdd f z y i i = f i := by
  unfold bitAdd
  rw [decide_eq_false (Nat.lt_irrefl i), Bool.false_and, pick_false, add_zero]
theorem bitAdd_next (f : Nat → E) (z y : E) (i k : Nat) (h : k ≠ i) : bitAdd f z y (i + 1) k = bitAdd f z y i k := by
  unfold bitAdd
  have : decide (k < i + 1) = decide (k < i) := by rw [decide_eq_decide]; omega
  rw [this]
theorem bitAdd_now (f : Nat → E) (z y : E) (i : Nat) : bitAdd f z y (i + 1) i = f i + pick (hasB z i) y := by
  unfold bitAdd
  rw [decide_eq_true (Nat.lt_succ_self i), Bool.true_and]
theorem bitAdd_end (f : Nat → E) (z y : E) (n k : Nat) (h : k < n) : bitAdd f z y n k = f k + pick (hasB z k) y := by
  unfold bitAdd
  rw [decide_eq_true h, Bool.true_and]
-- @IF packvbyLeft
end Go.Proofs.YtbapldgapbmdkaaGreat.Sp
namespace Go.Proofs.YtbapldgapbmdkaaGreat.Sp
open Go.Proofs.YtbapldgapbmdkaaGreat.V.B Go.RowKit Go.Proofs.YtbapldgapbmdkaaGreat.B Go.Proofs.YtbapldgapbmdkaaGreat.V.B.Ar Go.Proofs.YtbapldgapbmdkaaGreat.V.B.Tw
set_option linter.unusedVariables false
set_option linter.unusedSimpArgs false
/-- The number of the first element that is not P, or -1. -/
theorem index_gen {α : Type} {l : Nat → List S47 → α → Int → Int → Option Int} {p : Nat → S47 → Option α → Option Bool} {P : E → Prop} [DecidablePred P] {a : α}
    (hs : ∀ k xs n i, l (k + 1) xs a n i = if i < n then (if 0 ≤ i then (if i < (xs.length : Int) then ((p k (rd47 xs i) (some a)).bind fun r => if r = true then some i else l k xs a n (wrap64 (i + 1))) else none) else none) else some (-1))
    (hp : ∀ x, Ev (fun k => p k (toS x) (some a)) (decide (¬ P x))) (X : List E) (hX : X.length ≤ 4611686018427387904) : ∀ (d i : Nat), i + d = X.length →
    ∃ r : Int, Ev (fun k => l k (X.map toS) a (X.length : Int) (i : Int)) r ∧ (r ≥ 0 ↔ ¬ ∀ x ∈ X.drop i, P x) := by
  intro d
  induction d with
  | zero =>
    intro i hi
    refine ⟨-1, Ev.step (fun k => hs k _ _ _) (Ev.neg (by omega) (Ev.ret _)), ?_⟩
    rw [List.drop_eq_nil_of_le (by omega)]
    exact ⟨fun h => absurd h (by decide), fun h => absurd (fun x hx => by cases hx) h⟩
  | succ d ih =>
    intro i hi
    have hi' : i < X.length := by omega
    obtain ⟨r, h1, h2⟩ := ih (i + 1) (by omega)
    have hd : (∀ x ∈ X.drop i, P x) ↔ P (X.getD i 0) ∧ ∀ x ∈ X.drop (i + 1), P x := by
      rw [List.drop_eq_getElem_cons hi']
      have : X.getD i 0 = X[i] := by rw [List.getD_eq_getElem?_getD, List.getElem?_eq_getElem hi']; rfl
      rw [this]
      exact List.forall_mem_cons
    have go : ∀ {r : Int}, Ev (fun k => (p k (rd47 (X.map toS) (i : Int)) (some a)).bind fun r => if r = true then some (i : Int) else l k (X.map toS) a (X.length : Int) (wrap64 ((i : Int) + 1))) r → Ev (fun k => l k (X.map toS) a (X.length : Int) (i : Int)) r := fun h =>
      Ev.step (fun k => hs k _ _ _) (Ev.pos (by omega) (Ev.pos (Int.natCast_nonneg _) (Ev.pos (by rw [List.length_map]; omega) h)))
    simp only [rdS, w64_succ hi' hX] at go
    by_cases c : P (X.getD i 0)
    · refine ⟨r, go (Ev.bnd (hp _) (Ev.neg (by simpa using c) h1)), h2.trans ?_⟩
      rw [hd]
      exact ⟨fun h g => h g.2, fun h g => h ⟨c, g⟩⟩
    · refine ⟨(i : Int), go (Ev.bnd (hp _) (Ev.pos (by simpa using c) (Ev.ret _))), ?_⟩
      rw [hd]
      exact ⟨fun _ g => c g.1, fun _ => Int.natCast_nonneg _⟩
end Go.Proofs.YtbapldgapbmdkaaGreat.Sp
namespace Go.Proofs.YtbapldgapbmdkaaGreat.Sp
open Go.Proofs.YtbapldgapbmdkaaGreat.V.B Go.RowKit Go.Proofs.YtbapldgapbmdkaaGreat.B Go.Proofs.YtbapldgapbmdkaaGreat.V.B.Ar Go.Proofs.YtbapldgapbmdkaaGreat.V.B.Tw
set_option linter.unusedVariables false
set_option linter.unusedSimpArgs false
/-- How many bits a number has. -/
def blen (n : Nat) : Nat := if n = 0 then 0 else Nat.log2 n + 1
theorem blen_le (n k : Nat) : blen n ≤ k ↔ n < 2 ^ k := by
  unfold blen
  by_cases h : n = 0
  · rw [if_pos h, h]
    exact ⟨fun _ => Nat.two_pow_pos k, fun _ => Nat.zero_le _⟩
  · rw [if_neg h, ← Nat.log2_lt h]
    exact ⟨fun h => h, fun h => h⟩
theorem blen_shift (n s : Nat) (h : 2 ^ s ≤ n) : blen n = blen (n / 2 ^ s) + s := by
  have key : ∀ k, blen n ≤ k + s ↔ blen (n / 2 ^ s) ≤ k := by
    intro k
    rw [blen_le, blen_le, Nat.div_lt_iff_lt_mul (Nat.two_pow_pos s), ← Nat.pow_add]
  have hs : s ≤ blen n := by
    apply Classical.byContradiction
    intro g
    have := (blen_le n s).1 (by omega)
    omega
  have h1 := (key (blen (n / 2 ^ s))).2 (Nat.le_refl _)
  have h2 := (key (blen n - s)).1 (by omega)
  omega
theorem len8_eq : ∀ b : Nat, b < 256 → bt by256_793 (b : Int) = ((blen b : Nat) : Int) := by decide +kernel
theorem u8_id {x : Int} (h0 : 0 ≤ x) (h1 : x < 256) : IntKind.u8.wrap x = x := by
  simp [IntKind.wrap, IntKind.bits, IntKind.signed]; omega
theorem len_j10 (n : Nat) (hn : n < 256) (x : Nat) (hx : x ≤ 1000) : Ev (fun k => math_bits_Len64.j10 k (n : Int) (x : Int)) ((x + blen n : Nat) : Int) := by
  have hb : blen n ≤ 8 := (blen_le n 8).2 hn
  refine Ev.step (fun k => by rw [math_bits_Len64.j10]) ?_
  rw [u8_id (by omega) (by omega), len8_eq n hn, w64_id (x := ((blen n : Nat) : Int)) (by omega) (by omega), w64_add (by omega) (by omega)]
  exact Ev.pos (by omega) (Ev.pos (by rw [show (ByteArray.size by256_793 : Int) = 256 from by decide +kernel]; omega) (Ev.ret _))
theorem len_j7 (n : Nat) (hn : n < 65536) (x : Nat) (hx : x ≤ 900) : Ev (fun k => math_bits_Len64.j7 k (n : Int) (x : Int)) ((x + blen n : Nat) : Int) := by
  refine Ev.step (fun k => by rw [math_bits_Len64.j7]) ?_
  by_cases c : (n : Int) ≥ 256
  · refine Ev.pos c ?_
    have e8 : wrap64 ((x : Int) + 8) = ((x + 8 : Nat) : Int) := by rw [w64_id (by omega) (by omega)]; omega
    have hb := blen_shift n 8 (by omega)
    rw [show (8 : Int) = ((8 : Nat) : Int) from rfl, shr_u64 n 8 (by decide)] at *
    rw [e8]
    have := len_j10 (n / 2 ^ 8) (by omega) (x + 8) (by omega)
    rwa [show x + 8 + blen (n / 2 ^ 8) = x + blen n by omega] at this
  · exact Ev.neg c (len_j10 n (by omega) x (by omega))
theorem Len64_ev (n : Nat) (hn : n < 2 ^ 64) : Ev (fun k => math_bits_Len64.f k (n : Int)) ((blen n : Nat) : Int) := by
  unfold math_bits_Len64.f
  have s32 : shr .u64 (n : Int) 32 = ((n / 2 ^ 32 : Nat) : Int) := shr_u64 n 32 (by decide)
  have s16 : ∀ m : Nat, shr .u64 (m : Int) 16 = ((m / 2 ^ 16 : Nat) : Int) := fun m => shr_u64 m 16 (by decide)
  have e0 : wrap64 ((32 : Int) + 16) = ((48 : Nat) : Int) := by decide +kernel
  have e1 : wrap64 ((0 : Int) + 16) = ((16 : Nat) : Int) := by decide +kernel
  by_cases c : (n : Int) ≥ 4294967296
  · refine Ev.pos c ?_
    have hb := blen_shift n 32 (by omega)
    rw [s32, s16, e0]
    generalize hq : n / 2 ^ 32 = q at hb
    by_cases d : (q : Int) ≥ 65536
    · have hb2 := blen_shift q 16 (by omega)
      have := len_j7 (q / 2 ^ 16) (by omega) 48 (by decide)
      rw [show 48 + blen (q / 2 ^ 16) = blen n by omega] at this
      exact Ev.pos d this
    · have := len_j7 q (by omega) 32 (by decide)
      rw [show 32 + blen q = blen n by omega] at this
      exact Ev.neg d this
  · refine Ev.neg c ?_
    rw [s16, e1]
    by_cases d : (n : Int) ≥ 65536
    · have hb2 := blen_shift n 16 (by omega)
      have := len_j7 (n / 2 ^ 16) (by omega) 16 (by decide)
      rw [show 16 + blen (n / 2 ^ 16) = blen n by omega] at this
      exact Ev.pos d this
    · have := len_j7 n (by omega) 0 (by decide)
      rw [Nat.zero_add] at this
      exact Ev.neg d this
/-- The leading bit. -/
theorem lead_ev (x : E) : Ev (fun k => span_lead.f k (toS x)) (((blen (val x) : Nat) : Int) - 1) := by
  have h1 := hi_bd x
  have h2 := lo_bd x
  have hv := val_hl x
  unfold span_lead.f
  rw [toS_f0, toS_f1]
  obtain ⟨h, hh⟩ := Int.eq_ofNat_of_zero_le h1.1
  obtain ⟨l, hl⟩ := Int.eq_ofNat_of_zero_le h2.1
  rw [hh] at h1 hv ⊢
  rw [hl] at h2 hv ⊢
  rw [Int.toNat_natCast, Int.toNat_natCast] at hv
  by_cases c : (h : Int) = 0
  · refine Ev.pos c (Ev.bnd (Len64_ev l (by omega)) (Ev.ret' ?_))
    have : val x = l := by omega
    rw [this]
    have hb : blen l ≤ 64 := (blen_le l 64).2 (by omega)
    exact w64_id (by omega) (by omega)
  · refine Ev.neg c (Ev.bnd (Len64_ev h (by omega)) (Ev.ret' ?_))
    have hb : blen h ≤ 64 := (blen_le h 64).2 (by omega)
    have hs := blen_shift (val x) 64 (by omega)
    have hd : val x / 2 ^ 64 = h := by omega
    rw [hd] at hs
    rw [hs, w64_id (by omega) (by omega)]
    omega
/-- Do all elements have bits below n alone? -/
def InN (n : Nat) (X : List E) : Prop := ∀ x ∈ X, val x < 2 ^ n
instance (n : Nat) (X : List E) : Decidable (InN n X) := by unfold InN; infer_instance
theorem towerBit_ev (n : Nat) (hn : n < 128) : Ev (fun k => tower_Bit.f k (n : Int)) (toS (bitE n)) := by
  obtain ⟨h1, h2⟩ := bitE_hl hn
  unfold tower_Bit.f
  refine Ev.pos (Int.natCast_nonneg _) ?_
  by_cases c : n < 64
  · refine Ev.pos (by omega) (Ev.pos (Int.natCast_nonneg _) (Ev.ret' ?_))
    unfold toS
    rw [h1, h2, if_pos c, if_pos c, shl_u64 n (by omega)]
  · refine Ev.neg (by omega) (Ev.step (fun k => by rw [tower_Bit.j3]) (Ev.pos (by omega) (Ev.pos (by omega) ?_)))
    have e : wrap64 ((n : Int) - 64) = ((n - 64 : Nat) : Int) := by rw [w64_id (by omega) (by omega)]; omega
    rw [e]
    refine Ev.pos (Int.natCast_nonneg _) (Ev.ret' ?_)
    unfold toS
    rw [h1, h2, if_neg c, if_neg c, shl_u64 (n - 64) (by omega)]
theorem spanHas_ev (x : E) (n : Nat) (hn : n < 128) : Ev (fun k => span_has.f k (toS x) (n : Int)) (hasB x n) := by
  unfold span_has.f
  refine Ev.bnd (towerBit_ev n hn) (Ev.ret' ?_)
  rw [toS_f0, toS_f1, toS_f0, toS_f1]
  exact hasBits x n hn
/-- Bits turned about, as far as one has come. -/
def turnN (X : List E) (m j : Nat) : E := sumN (fun i => pick (hasB (X.getD i 0) j) (bitE i)) m
def turnL (X : List E) (n : Nat) : List E := tabL n (turnN X X.length)
end Go.Proofs.YtbapldgapbmdkaaGreat.Sp
namespace Go.Proofs.YtbapldgapbmdkaaGreat.Sp
open Go.Proofs.YtbapldgapbmdkaaGreat.V.B Go.RowKit Go.Proofs.YtbapldgapbmdkaaGreat.B Go.Proofs.YtbapldgapbmdkaaGreat.V.B.Ar Go.Proofs.YtbapldgapbmdkaaGreat.V.B.Tw
set_option linter.unusedVariables false
set_option linter.unusedSimpArgs false
theorem blen_ld {x : E} (h : x ≠ 0) : blen (val x) = ld x + 1 := by
  have hv : val x ≠ 0 := fun e => h (val_eq_zero.1 e)
  unfold blen ld
  rw [if_neg hv]
theorem ld_lt (x : E) : ld x < 128 := by
  by_cases h : x = 0
  · subst h; unfold ld; rw [val_zero]; decide
  · have hv : val x ≠ 0 := fun e => h (val_eq_zero.1 e)
    have := val_lt x
    rw [Q_seven] at this
    exact (Nat.log2_lt hv).2 this
theorem lead_ne {x : E} (h : x ≠ 0) : Ev (fun k => span_lead.f k (toS x)) ((ld x : Nat) : Int) := by
  have := lead_ev x
  rw [blen_ld h] at this
  exact this.eqn (by omega)
theorem has_ev (x : E) {k : Nat} (h : k < 128) : Ev (fun q => span_has.f q (toS x) (k : Int)) (bitT x k) := spanHas_ev x k h
/-- An element without the leading bits of a basis. -/
theorem less_ev (R : List E) (hR : ∀ b ∈ R, b ≠ 0) (hn : R.length ≤ 1000000) (x : E) : Ev (fun k => span_less.f k (R.map toS) (toS x)) (toS (lessT R x)) := by
  unfold span_less.f
  rw [List.length_map]
  have key : ∀ (d i : Nat) (y : E), i + d = R.length → Ev (fun k => span_less.l2 k (R.map toS) (R.length : Int) (i : Int) (hi y) (lo y) 0 0) (toS (lessT (R.drop i) y)) := by
    intro d
    induction d with
    | zero =>
      intro i y hi'
      have : i = R.length := by omega
      subst this
      rw [List.drop_length]
      refine Ev.step (fun k => by rw [span_less.l2]) ?_
      exact Ev.neg (Int.lt_irrefl _) (Ev.ret' rfl)
    | succ d ih =>
      intro i y hi'
      have hlt : i < R.length := by omega
      have hd : R.drop i = R.getD i 0 :: R.drop (i + 1) := by rw [List.drop_eq_getElem_cons hlt, List.getD_eq_getElem?_getD, List.getElem?_eq_getElem hlt]; rfl
      have hne : R.getD i 0 ≠ 0 := hR _ (by rw [List.getD_eq_getElem?_getD, List.getElem?_eq_getElem hlt]; exact List.getElem_mem hlt)
      rw [hd, lessT]
      refine Ev.step (fun k => by rw [span_less.l2]) (Ev.pos (by omega) (Ev.ixS (by rw [List.length_map]; exact hlt) ?_))
      rw [rdS, w64_succ hlt (by omega)]
      refine Ev.bnd (lead_ne hne) (Ev.bnd (has_ev y (ld_lt _)) ?_)
      cases c : bitT y (ld (R.getD i 0)) with
      | true =>
        rw [if_pos rfl]
        exact Ev.pos rfl (Ev.bnd (Add_ev _ _) (ih (i + 1) _ (by omega)))
      | false =>
        rw [if_neg Bool.false_ne_true]
        exact Ev.neg Bool.false_ne_true (ih (i + 1) _ (by omega))
  have := key R.length 0 x (by omega)
  rw [List.drop_zero] at this
  exact this
theorem insT_take (y : E) : ∀ (R : List E) (j : Nat), j ≤ R.length → (∀ i, i < R.length → i < j → ¬ ld (R.getD i 0) < ld y) → (∀ i, i < R.length → j ≤ i → ld (R.getD i 0) < ld y) → insT y R = R.take j ++ y :: R.drop j
  | [], j, hj, _, _ => by
    have : j = 0 := by simpa using hj
    subst this; rfl
  | b :: R, 0, _, _, h2 => by
    have : ld b < ld y := h2 0 (by simp) (Nat.le_refl _)
    rw [insT, if_pos this]; rfl
  | b :: R, j + 1, hj, h1, h2 => by
    have : ¬ ld b < ld y := h1 0 (by simp) (by omega)
    rw [insT, if_neg this, insT_take y R j (by simpa using hj) (fun i hi hij => h1 (i + 1) (by simpa using hi) (by omega)) (fun i hi hij => h2 (i + 1) (by simpa using hi) (by omega))]
    rfl
theorem mid_get (R : List E) (y : E) (j : Nat) (hj : j ≤ R.length) : (R.take j ++ y :: R.drop j).getD j 0 = y := by
  rw [List.getD_eq_getElem?_getD, List.getElem?_append_right (by rw [List.length_take]; omega), List.length_take, Nat.min_eq_left hj, Nat.sub_self]; rfl
theorem mid_prev (R : List E) (y : E) (j : Nat) (hj : j < R.length) : (R.take (j + 1) ++ y :: R.drop (j + 1)).getD j 0 = R.getD j 0 := by
  rw [List.getD_eq_getElem?_getD, List.getD_eq_getElem?_getD, List.getElem?_append_left (by rw [List.length_take]; omega), List.getElem?_take, if_pos (by omega)]
theorem mid_swap (R : List E) (y : E) (j : Nat) (hj : j < R.length) : ((R.take (j + 1) ++ y :: R.drop (j + 1)).set (j + 1) (R.getD j 0)).set j y = R.take j ++ y :: R.drop j := by
  have h1 : R.take (j + 1) = R.take j ++ [R.getD j 0] := by
    rw [List.take_succ_eq_append_getElem hj, List.getD_eq_getElem?_getD, List.getElem?_eq_getElem hj]; rfl
  have h2 : R.drop j = R.getD j 0 :: R.drop (j + 1) := by
    rw [List.drop_eq_getElem_cons hj, List.getD_eq_getElem?_getD, List.getElem?_eq_getElem hj]; rfl
  have hl : (R.take j).length = j := by rw [List.length_take]; omega
  rw [h2, h1, List.append_assoc]
  rw [List.set_append_right _ _ (by omega), hl, Nat.add_sub_cancel_left]
  rw [List.set_append_right _ _ (by omega), hl, Nat.sub_self]
  rfl
/-- The last one moves to its place. -/
theorem sort_l4 {R : List E} (hf : R.Pairwise fun x y => ld y < ld x) (hne : ∀ b ∈ R, b ≠ 0) {y : E} (hy : y ≠ 0) (hn : R.length ≤ 1000000) : ∀ (j : Nat), j ≤ R.length → (∀ i, i < R.length → j ≤ i → ld (R.getD i 0) < ld y) →
    Ev (fun k => slices_insertionSortCmpFunc101_c97.l4 k 0 ((R.length + 1 : Nat) : Int) () (R.length : Int) (j : Int) ((R.take j ++ y :: R.drop j).map toS)) ((insT y R).map toS) := by
  have hll : ∀ j, j ≤ R.length → ((R.take j ++ y :: R.drop j).map toS).length = R.length + 1 := fun j hj => by
    rw [List.length_map, List.length_append, List.length_cons, List.length_take, List.length_drop]; omega
  have fin : ∀ L : List S47, Ev (fun k => slices_insertionSortCmpFunc101_c97.l1 k 0 ((R.length + 1 : Nat) : Int) () (wrap64 ((R.length : Int) + 1)) L) L := fun L => by
    have e : wrap64 ((R.length : Int) + 1) = ((R.length + 1 : Nat) : Int) := w64_succ (show R.length < R.length + 1 by omega) (by omega)
    rw [e]
    refine Ev.step (fun k => by rw [slices_insertionSortCmpFunc101_c97.l1]) ?_
    exact Ev.neg (Int.lt_irrefl _) (Ev.ret' rfl)
  have mem : ∀ i, i < R.length → R.getD i 0 ∈ R := fun i hi' => by
    rw [List.getD_eq_getElem?_getD, List.getElem?_eq_getElem hi']; exact List.getElem_mem hi'
  have sorted : ∀ i j, i < j → j < R.length → ld (R.getD j 0) < ld (R.getD i 0) := fun i j hij hj => by
    have := List.pairwise_iff_getElem.1 hf i j (by omega) hj hij
    rw [List.getD_eq_getElem?_getD, List.getD_eq_getElem?_getD, List.getElem?_eq_getElem hj, List.getElem?_eq_getElem (show i < R.length by omega)]
    exact this
  intro j
  induction j with
  | zero =>
    intro hj h
    rw [insT_take y R 0 hj (fun i _ hi => by omega) h]
    refine Ev.step (fun k => by rw [slices_insertionSortCmpFunc101_c97.l4]) ?_
    exact Ev.neg (by decide) (fin _)
  | succ j ih =>
    intro hj h
    have hlt : j < R.length := by omega
    have f0 : (((j + 1 : Nat) : Int)) > 0 := by omega
    have f1 : j + 1 < ((R.take (j + 1) ++ y :: R.drop (j + 1)).map toS).length := by rw [hll _ hj]; omega
    have f2 : j < ((R.take (j + 1) ++ y :: R.drop (j + 1)).map toS).length := by omega
    have f3 : j < (((R.take (j + 1) ++ y :: R.drop (j + 1)).map toS).set (Int.toNat ((j + 1 : Nat) : Int)) (toS (R.getD j 0))).length := by rw [List.length_set]; exact f2
    have hb := ld_lt (R.getD j 0)
    have hb2 := ld_lt y
    have ec : Ev (fun k => span_put_1.f k (toS y) (toS (R.getD j 0))) (((ld (R.getD j 0) : Nat) : Int) - ((ld y : Nat) : Int)) := by
      unfold span_put_1.f
      refine Ev.bnd (lead_ne (hne _ (mem j hlt))) (Ev.bnd (lead_ne hy) (Ev.ret' ?_))
      exact w64_id (by omega) (by omega)
    have e1 : wrap64 (((j + 1 : Nat) : Int) - 1) = (j : Int) := by rw [w64_id (by omega) (by omega)]; omega
    refine Ev.step (fun k => by rw [slices_insertionSortCmpFunc101_c97.l4]) ?_
    rw [e1]
    clear e1
    refine Ev.pos f0 (Ev.ixS f1 (Ev.ixS f2 ?_))
    rw [rdS, rdS, mid_get R y (j + 1) hj, mid_prev R y j hlt]
    refine Ev.bnd ec ?_
    by_cases c : ld (R.getD j 0) < ld y
    · refine Ev.pos (by omega) (Ev.ixS f2 (Ev.ixS f1 (Ev.ixS f1 (Ev.ixS f3 ?_))))
      rw [Int.toNat_natCast, Int.toNat_natCast, map_set, map_set, mid_swap R y j hlt]
      refine ih (by omega) fun i hi' hij => ?_
      by_cases g : i = j
      · rw [g]; exact c
      · exact h i hi' (by omega)
    · refine Ev.neg (by omega) ?_
      rw [insT_take y R (j + 1) hj (fun i hi' hij => ?_) h]
      · exact fin _
      · by_cases g : i = j
        · rw [g]; exact c
        · have := sorted i j (by omega) hlt
          omega
theorem sort_ev {R : List E} (hf : R.Pairwise fun x y => ld y < ld x) (hne : ∀ b ∈ R, b ≠ 0) {y : E} (hy : y ≠ 0) (hn : R.length ≤ 11) : Ev (fun k => slices_SortFunc96_c97.f k ((R ++ [y]).map toS) ()) ((insT y R).map toS) := by
  have hll : ((R ++ [y]).map toS).length = R.length + 1 := by rw [List.length_map, List.length_append, List.length_singleton]
  have sorted : ∀ i j, i < j → j < R.length → ld (R.getD j 0) < ld (R.getD i 0) := fun i j hij hj => by
    have := List.pairwise_iff_getElem.1 hf i j (by omega) hj hij
    rw [List.getD_eq_getElem?_getD, List.getD_eq_getElem?_getD, List.getElem?_eq_getElem hj, List.getElem?_eq_getElem (show i < R.length by omega)]
    exact this
  have mem : ∀ i, i < R.length → R.getD i 0 ∈ R := fun i hi' => by
    rw [List.getD_eq_getElem?_getD, List.getElem?_eq_getElem hi']; exact List.getElem_mem hi'
  have getA : ∀ i, i < R.length → (R ++ [y]).getD i 0 = R.getD i 0 := fun i hi' => by
    rw [List.getD_eq_getElem?_getD, List.getD_eq_getElem?_getD, List.getElem?_append_left hi']
  unfold slices_SortFunc96_c97.f slices_pdqsortCmpFunc99_c97.f
  rw [hll]
  have hlen : ∃ r : Int, Ev (fun k => math_bits_Len.f k (IntKind.u64.wrap ((R.length + 1 : Nat) : Int))) r := by
    refine ⟨((blen (R.length + 1) : Nat) : Int), ?_⟩
    rw [u64_id (by omega) (by omega)]
    unfold math_bits_Len.f
    exact Ev.bnd (Len64_ev (R.length + 1) (by omega)) (Ev.ret _)
  obtain ⟨r, hr⟩ := hlen
  have hw : wrap64 (((R.length + 1 : Nat) : Int) - 0) = ((R.length + 1 : Nat) : Int) := w64_id (by omega) (by omega)
  refine Ev.bnd hr (Ev.bnd (Ev.step (fun k => by rw [slices_pdqsortCmpFunc99_c97.l2]) ?_) (Ev.ret _))
  rw [hw]
  clear hw
  refine Ev.pos (by omega) (Ev.bnd ?_ (Ev.ret _))
  unfold slices_insertionSortCmpFunc101_c97.f
  have key : ∀ (d i : Nat), i + d = R.length → 1 ≤ i ∨ R.length = 0 → Ev (fun k => slices_insertionSortCmpFunc101_c97.l1 k 0 ((R.length + 1 : Nat) : Int) () (i : Int) ((R ++ [y]).map toS)) ((insT y R).map toS) := by
    intro d
    induction d with
    | zero =>
      intro i hi' _
      have : i = R.length := by omega
      subst this
      refine Ev.step (fun k => by rw [slices_insertionSortCmpFunc101_c97.l1]) (Ev.pos (by omega) ?_)
      have := sort_l4 hf hne hy (by omega) R.length (Nat.le_refl _) (fun i h1 h2 => by omega)
      rw [List.take_of_length_le (Nat.le_refl _), List.drop_length] at this
      exact this
    | succ d ih =>
      intro i hi' h1
      have hlt : i < R.length := by omega
      have hi1 : 1 ≤ i := by omega
      have hih := ih (i + 1) (by omega) (by omega)
      have f0 : (i : Int) < ((R.length + 1 : Nat) : Int) := by omega
      have f1 : i < ((R ++ [y]).map toS).length := by rw [hll]; omega
      have f2 : i - 1 < ((R ++ [y]).map toS).length := by omega
      have f3 : (i : Int) > 0 := by omega
      have hs := sorted (i - 1) i (by omega) hlt
      have hb := ld_lt (R.getD (i - 1) 0)
      have hb2 := ld_lt (R.getD i 0)
      have ec : Ev (fun k => span_put_1.f k (toS (R.getD i 0)) (toS (R.getD (i - 1) 0))) (((ld (R.getD (i - 1) 0) : Nat) : Int) - ((ld (R.getD i 0) : Nat) : Int)) := by
        unfold span_put_1.f
        refine Ev.bnd (lead_ne (hne _ (mem _ (by omega)))) (Ev.bnd (lead_ne (hne _ (mem _ hlt))) (Ev.ret' ?_))
        exact w64_id (by omega) (by omega)
      have e2 : wrap64 ((i : Int) + 1) = ((i + 1 : Nat) : Int) := w64_succ hlt (by omega)
      have e1 : wrap64 ((i : Int) - 1) = ((i - 1 : Nat) : Int) := by rw [w64_id (by omega) (by omega)]; omega
      refine Ev.step (fun k => by rw [slices_insertionSortCmpFunc101_c97.l1]) (Ev.pos f0 (Ev.step (fun k => by rw [slices_insertionSortCmpFunc101_c97.l4]) ?_))
      rw [e1, e2]
      clear e1 e2
      refine Ev.pos f3 (Ev.ixS f1 (Ev.ixS f2 ?_))
      rw [rdS, rdS, getA i hlt, getA (i - 1) (by omega)]
      exact Ev.bnd ec (Ev.neg (by omega) hih)
  have h01 : wrap64 ((0 : Int) + 1) = ((1 : Nat) : Int) := by decide +kernel
  rw [h01]
  by_cases hz : R.length = 0
  · have : R = [] := List.eq_nil_of_length_eq_zero hz
    subst this
    refine Ev.step (fun k => by rw [slices_insertionSortCmpFunc101_c97.l1]) ?_
    exact Ev.neg (by decide) (Ev.ret' rfl)
  · exact key (R.length - 1) 1 (by omega) (.inl (Nat.le_refl _))
theorem put_ev {R : List E} (hR : Red R) (hn : R.length ≤ 11) (x : E) : Ev (fun k => span_put.f k (R.map toS) (toS x)) ((Tw.putT R x).map toS) := by
  have hl := less_bit hR x
  unfold span_put.f Tw.putT
  refine Ev.bnd (less_ev R hR.ne (by omega) x) ?_
  by_cases c : lessT R x = 0
  · rw [if_pos c]
    exact Ev.pos ((eq_zero_iff _).1 c) (Ev.ret _)
  rw [if_neg c]
  refine Ev.neg (fun g => c ((eq_zero_iff _).2 g)) ?_
  generalize lessT R x = y at c hl
  rw [List.length_map]
  have hred := hR
  refine Ev.down (g := fun i k => span_put.l6 k (R.map toS) (R.length : Int) (i : Int) (hi y) (lo y) (((R.take i).map (clrT y)).map toS)) (n := R.length) ?_ fun i hi' hih => ?_
  · rw [List.take_of_length_le (Nat.le_refl _)]
    refine Ev.step (fun k => by rw [span_put.l6]) (Ev.neg (Int.lt_irrefl _) (Ev.pos (by rw [List.length_map, List.length_map, List.length_singleton]; omega) ?_))
    have hlead : ∀ b ∈ R, ld (clrT y b) = ld b ∧ clrT y b ≠ 0 := fun b hb => clr_ld (hR.ne b hb) (hl b hb)
    have hf : (R.map (clrT y)).Pairwise fun x y => ld y < ld x := by
      rw [List.pairwise_map]
      refine hR.fall.imp_of_mem fun {a b} ha hb h => ?_
      rw [(hlead a ha).1, (hlead b hb).1]; exact h
    have hne : ∀ b ∈ R.map (clrT y), b ≠ 0 := fun b hb => by
      obtain ⟨a, ha, rfl⟩ := List.mem_map.1 hb
      exact (hlead a ha).2
    have := sort_ev hf hne c (by rw [List.length_map]; exact hn)
    rw [List.map_append] at this
    exact Ev.bnd this (Ev.ret _)
  · have hmem : R.getD i 0 ∈ R := by
      rw [List.getD_eq_getElem?_getD, List.getElem?_eq_getElem hi']; exact List.getElem_mem hi'
    have ht : R.take (i + 1) = R.take i ++ [R.getD i 0] := by
      rw [List.take_succ_eq_append_getElem hi', List.getD_eq_getElem?_getD, List.getElem?_eq_getElem hi']; rfl
    have f0 : (i : Int) < (R.length : Int) := by omega
    have f3 : (((R.take i).map (clrT y)).map toS).length + 1 ≤ 140737488355328 / 16 := by rw [List.length_map, List.length_map, List.length_take]; omega
    rw [ht, List.map_append, List.map_append] at hih
    refine Ev.step (fun k => by rw [span_put.l6]) (Ev.pos f0 (Ev.ixS (by rw [List.length_map]; exact hi') (Ev.bnd (lead_ne c) ?_)))
    rw [rdS, w64_succ hi' (by omega)]
    refine Ev.bnd (has_ev _ (ld_lt y)) ?_
    have hc : clrT y (R.getD i 0) = if bitT (R.getD i 0) (ld y) = true then R.getD i 0 + y else R.getD i 0 := rfl
    have hih : Ev (fun k => span_put.l6 k (R.map toS) (R.length : Int) ((i + 1 : Nat) : Int) (hi y) (lo y) (((R.take i).map (clrT y)).map toS ++ [toS (clrT y (R.getD i 0))])) _ := hih
    rw [hc] at hih
    cases g : bitT (R.getD i 0) (ld y) with
    | true =>
      rw [g, if_pos rfl] at hih
      exact Ev.pos rfl (Ev.bnd (Add_ev _ _) (Ev.pos f3 hih))
    | false =>
      rw [g, if_neg Bool.false_ne_true] at hih
      exact Ev.neg Bool.false_ne_true (Ev.pos f3 hih)
theorem Basis_ev (X : List E) (hX : X.length ≤ 12) : Ev (fun k => span_Basis.f k (X.map toS)) ((basT X).map toS) := by
  unfold span_Basis.f
  rw [List.length_map]
  refine Ev.down (g := fun i k => span_Basis.l3 k ((basT (X.take i)).map toS) (X.map toS) (X.length : Int) (i : Int)) (n := X.length) ?_ fun i hi' hih => ?_
  · rw [List.take_of_length_le (Nat.le_refl _)]
    refine Ev.step (fun k => by rw [span_Basis.l3]) ?_
    exact Ev.neg (Int.lt_irrefl _) (Ev.ret' rfl)
  · have ht : X.take (i + 1) = X.take i ++ [X.getD i 0] := by
      rw [List.take_succ_eq_append_getElem hi', List.getD_eq_getElem?_getD, List.getElem?_eq_getElem hi']; rfl
    have hr := rank_le (X.take i)
    rw [List.length_take] at hr
    rw [ht, bas_snoc] at hih
    refine Ev.step (fun k => by rw [span_Basis.l3]) (Ev.pos (by omega) (Ev.ixS (by rw [List.length_map]; exact hi') ?_))
    rw [rdS, w64_succ hi' (by omega)]
    exact Ev.bnd (put_ev (bas_red _) (by omega) _) hih
theorem Rank_ev (X : List E) (hX : X.length ≤ 12) : Ev (fun k => span_Rank.f k (X.map toS)) (((basT X).length : Nat) : Int) := by
  unfold span_Rank.f
  exact Ev.bnd (Basis_ev X hX) (Ev.ret' (by rw [List.length_map]))
end Go.Proofs.YtbapldgapbmdkaaGreat.Sp
namespace Go.Proofs.YtbapldgapbmdkaaGreat.Sp
open Go.Proofs.YtbapldgapbmdkaaGreat.V.B Go.RowKit Go.Proofs.YtbapldgapbmdkaaGreat.B Go.Proofs.YtbapldgapbmdkaaGreat.V.B.Ar Go.Proofs.YtbapldgapbmdkaaGreat.V.B.Tw
set_option linter.unusedVariables false
set_option linter.unusedSimpArgs false
theorem square_ev : ∀ (l : Nat), l ≤ 6 → ∀ (x : Nat), x < Q l → Ev (fun k => tower_square.f k (l : Int) (x : Int)) ((val (of l x * of l x) : Nat) : Int) := by
  intro l
  induction l with
  | zero =>
    intro _ x hx
    have e : val (of 0 x * of 0 x) = x := by
      have h1 : x < 2 := hx
      rcases (by omega : x = 0 ∨ x = 1) with rfl | rfl <;> rfl
    refine Ev.step (fun k => by rw [tower_square.f]) (Ev.pos (by rfl) (Ev.ret' ?_))
    rw [e]
  | succ l ih =>
    intro hl x hx
    have hQ := Q_lt_64 (n := l) (by omega)
    have hl5 : l ≤ 5 := by omega
    have hx64 : x < 2 ^ 64 := Nat.lt_of_lt_of_le hx (Q_le_64 hl)
    have hxd : x / Q l < Q l := Nat.div_lt_of_lt_mul (by rw [← Q_succ]; exact hx)
    have hxm : x % Q l < Q l := Nat.mod_lt _ (Q_pos l)
    have v1 := val_lt (of l (x / Q l) * of l (x / Q l))
    have v2 := val_lt (of l (x % Q l) * of l (x % Q l))
    have v3 := val_lt (gen l * of l (val (of l (x / Q l) * of l (x / Q l))))
    refine Ev.step (fun k => by rw [tower_square.f]) (Ev.neg (by omega) (Ev.bnd (halves_ev hl5 x hx64) ?_))
    simp only [w64_pred (show l + 1 ≤ 1000 by omega)]
    refine Ev.bnd (ih (by omega) _ hxd) (Ev.bnd (mulX_ev l (by omega) _ v1) (Ev.bnd (ih (by omega) _ hxm) ?_))
    simp only [xor_u64 _ _ (Nat.lt_trans v2 hQ) (Nat.lt_trans v1 hQ)]
    refine Ev.bnd (join_ev hl5 _ _ v3 (xor_lt v2 v1)) (Ev.ret' ?_)
    congr 1
    rw [val_succ (of (l + 1) x * of (l + 1) x)]
    congr 1
    · congr 1
      rw [mul_fst, of_succ, mk_fst, mk_snd, of_val, mul_comm (of l (x / Q l)) (of l (x % Q l)), add_self, zero_add]
    · rw [mul_snd, of_succ, mk_fst, mk_snd, val_add]
theorem invT_succ {n : Nat} (z : T (n + 1)) : invT z = mk (z.1 * invT (nrm z)) (othr z * invT (nrm z)) := rfl
theorem inv_ev : ∀ (l : Nat), l ≤ 6 → ∀ (x : Nat), x < Q l → Ev (fun k => tower_inv.f k (l : Int) (x : Int)) ((val (invT (of l x)) : Nat) : Int) := by
  intro l
  induction l with
  | zero =>
    intro _ x hx
    refine Ev.step (fun k => by rw [tower_inv.f]) (Ev.pos (by rfl) (Ev.ret' ?_))
    show _ = ((val (of 0 x) : Nat) : Int)
    rw [val_of 0 x hx]
  | succ l ih =>
    intro hl x hx
    have hQ := Q_lt_64 (n := l) (by omega)
    have hl5 : l ≤ 5 := by omega
    have hl6 : l ≤ 6 := by omega
    have hx64 : x < 2 ^ 64 := Nat.lt_of_lt_of_le hx (Q_le_64 hl)
    have hxd : x / Q l < Q l := Nat.div_lt_of_lt_mul (by rw [← Q_succ]; exact hx)
    have hxm : x % Q l < Q l := Nat.mod_lt _ (Q_pos l)
    have eo : othr (of (l + 1) x) = of l (x % Q l ^^^ val (gen l * of l (x / Q l))) := by
      unfold othr; rw [of_xor hxm (val_lt _), of_val]; rfl
    have en : nrm (of (l + 1) x) = of l (val (of l (x % Q l) * of l (x % Q l ^^^ val (gen l * of l (x / Q l)))) ^^^ val (of l (x / Q l) * of l (x / Q l))) := by
      unfold nrm; rw [of_xor (val_lt _) (val_lt _), of_val, of_val, eo]; rfl
    have ex : ∀ y, (of (l + 1) x).1 * y = of l (x / Q l) * y := fun y => rfl
    have v1 := val_lt (gen l * of l (x / Q l))
    have hw := xor_lt hxm v1
    have v2 := val_lt (of l (x % Q l) * of l (x % Q l ^^^ val (gen l * of l (x / Q l))))
    have v3 := val_lt (of l (x / Q l) * of l (x / Q l))
    refine Ev.step (fun k => by rw [tower_inv.f]) (Ev.neg (by omega) (Ev.bnd (halves_ev hl5 x hx64) ?_))
    simp only [w64_pred (show l + 1 ≤ 1000 by omega)]
    refine Ev.bnd (mulX_ev l hl6 _ hxd) ?_
    simp only [xor_u64 _ _ (Nat.lt_trans hxm hQ) (Nat.lt_trans v1 hQ)]
    refine Ev.bnd (mul_ev l hl6 _ _ hxm hw) (Ev.bnd (square_ev l hl6 _ hxd) ?_)
    simp only [xor_u64 _ _ (Nat.lt_trans v2 hQ) (Nat.lt_trans v3 hQ)]
    refine Ev.bnd (ih hl6 _ (xor_lt v2 v3)) ?_
    rw [← en]
    have v4 := val_lt (invT (nrm (of (l + 1) x)))
    refine Ev.bnd (mul_ev l hl6 _ _ hxd v4) (Ev.bnd (mul_ev l hl6 _ _ hw v4) ?_)
    refine Ev.bnd (join_ev hl5 _ _ (val_lt _) (val_lt _)) (Ev.ret' ?_)
    congr 1
    rw [val_succ (invT (of (l + 1) x)), invT_succ, mk_fst, mk_snd, ex, eo, of_val]
theorem inL_inv {l : Nat} (hl : l ≤ 7) {x : E} (hx : InL l x) : InL l (invT x) := val_inv_lt hl hx
theorem inL_toS {l : Nat} (hl : l ≤ 6) {x : E} (h : InL l x) : toS x = ⟨0, ((val x : Nat) : Int)⟩ := by
  have h6 := inL_six.1 (inL_mono hl h)
  have e := val_hl x
  have hb := lo_bd x
  rw [h6] at e
  have e3 : lo x = ((val x : Nat) : Int) := by omega
  unfold toS; rw [h6, e3]
theorem ofS_in {l : Nat} (hl : l ≤ 7) {x : E} (h : InL l x) : OfS (l : Int) x := ⟨by omega, by omega, by rw [Int.toNat_natCast]; exact h⟩
theorem Square_ev {l : Nat} (hl : l ≤ 7) {x : E} (hx : InL l x) : Ev (fun k => tower_Square.f k (l : Int) (toS x)) (toS (x * x)) := by
  unfold tower_Square.f
  refine Ev.bnd (of_ev (l : Int) x) ?_
  rw [decide_eq_true (ofS_in hl hx)]
  refine Ev.neg (by decide) ?_
  by_cases c : l ≤ 6
  · have e := square_ev l c (val x) hx
    rw [← val_mul_level hl hx hx, of_val] at e
    rw [inL_toS c hx]
    refine Ev.pos (by omega) (Ev.bnd e (Ev.ret' ?_))
    rw [inL_toS c (inL_mul hl hx hx)]
  · have : l = 7 := by omega
    subst this
    have v1 := val_lt x.1
    have v2 := val_lt x.2
    have m1 := square_ev 6 (by decide) _ v1
    have m2 := square_ev 6 (by decide) _ v2
    rw [of_val] at m1 m2
    have m4 := mulX_ev 6 (by decide) _ (val_lt (x.1 * x.1))
    rw [of_val] at m4
    refine Ev.neg (by decide) (Ev.bnd m1 (Ev.bnd m4 (Ev.bnd m2 (Ev.ret' ?_))))
    rw [xor_u64 _ _ (val_lt _) (val_lt _), ← val_add]
    have e1 : (x * x).1 = gen 6 * (x.1 * x.1) := by rw [mul_fst, mul_comm x.1 x.2, add_self, zero_add]
    unfold toS hi lo
    rw [e1, mul_snd]
theorem Inv_ev {l : Nat} (hl : l ≤ 7) {x : E} (hx : InL l x) : Ev (fun k => tower_Inv.f k (l : Int) (toS x)) (toS (invT x)) := by
  unfold tower_Inv.f
  refine Ev.bnd (of_ev (l : Int) x) ?_
  rw [decide_eq_true (ofS_in hl hx)]
  refine Ev.neg (by decide) ?_
  by_cases c : l ≤ 6
  · have e := inv_ev l c (val x) hx
    have g : val (invT (of l (val x))) = val (invT x) := by
      rw [← val_inv_of hl hx, of_val]
    rw [g] at e
    rw [inL_toS c hx]
    refine Ev.pos (by omega) (Ev.bnd e (Ev.ret' ?_))
    rw [inL_toS c (inL_inv hl hx)]
  · have : l = 7 := by omega
    subst this
    have v1 := val_lt x.1
    have v2 := val_lt x.2
    have v3 := val_lt (gen 6 * x.1)
    have m4 := mulX_ev 6 (by decide) _ v1
    rw [of_val] at m4
    have eo : (val x.2 ^^^ val (gen 6 * x.1)) = val (othr x) := by rw [← val_add]; rfl
    have m5 := mul_ev 6 (by decide) _ _ v2 (val_lt (othr x))
    rw [of_val, of_val] at m5
    have m6 := square_ev 6 (by decide) _ v1
    rw [of_val] at m6
    have en : (val (x.2 * othr x) ^^^ val (x.1 * x.1)) = val (nrm x) := by rw [← val_add]; rfl
    have m7 := inv_ev 6 (by decide) _ (val_lt (nrm x))
    rw [of_val] at m7
    have m8 := mul_ev 6 (by decide) _ _ v1 (val_lt (invT (nrm x)))
    rw [of_val, of_val] at m8
    have m9 := mul_ev 6 (by decide) _ _ (val_lt (othr x)) (val_lt (invT (nrm x)))
    rw [of_val, of_val] at m9
    refine Ev.neg (by decide) (Ev.bnd m4 ?_)
    simp only [toS, lo, hi, xor_u64 _ _ v2 v3, eo]
    refine Ev.bnd m5 (Ev.bnd m6 ?_)
    simp only [xor_u64 _ _ (val_lt (x.2 * othr x)) (val_lt (x.1 * x.1)), en]
    refine Ev.bnd m7 (Ev.bnd m8 (Ev.bnd m9 (Ev.ret' ?_)))
    rw [invT_succ]
    rfl
end Go.Proofs.YtbapldgapbmdkaaGreat.Sp
namespace Go.Proofs.YtbapldgapbmdkaaGreat.Sp
open Go.Proofs.YtbapldgapbmdkaaGreat.V.B Go.RowKit Go.Proofs.YtbapldgapbmdkaaGreat.B Go.Proofs.YtbapldgapbmdkaaGreat.V.B.Ar Go.Proofs.YtbapldgapbmdkaaGreat.V.B.Tw
set_option linter.unusedVariables false
set_option linter.unusedSimpArgs false
/-- The basis as a row without end. -/
abbrev bE (B : List E) : Nat → E := fun i => B.getD i 0
def tops (B : List E) (k : Nat) : List E := (List.range k).map fun i => W (bE B) i (bE B i)
def backs (B : List E) (k : Nat) : List E := (List.range k).map fun i => invT (W (bE B) i (bE B i))
theorem tops_length (B : List E) (k : Nat) : (tops B k).length = k := by unfold tops; rw [List.length_map, List.length_range]
theorem backs_length (B : List E) (k : Nat) : (backs B k).length = k := by unfold backs; rw [List.length_map, List.length_range]
theorem range_get (f : Nat → E) {k i : Nat} (h : i < k) : ((List.range k).map f).getD i 0 = f i := by
  rw [List.getD_eq_getElem?_getD, List.getElem?_map, List.getElem?_range h]; rfl
theorem tops_get (B : List E) {k i : Nat} (h : i < k) : (tops B k).getD i 0 = W (bE B) i (bE B i) := range_get _ h
theorem backs_get (B : List E) {k i : Nat} (h : i < k) : (backs B k).getD i 0 = invT (W (bE B) i (bE B i)) := range_get _ h
theorem tops_succ (B : List E) (k : Nat) : tops B (k + 1) = tops B k ++ [W (bE B) k (bE B k)] := by unfold tops; rw [List.range_succ, List.map_append]; rfl
theorem backs_succ (B : List E) (k : Nat) : backs B (k + 1) = backs B k ++ [invT (W (bE B) k (bE B k))] := by unfold backs; rw [List.range_succ, List.map_append]; rfl
theorem inL_W {l : Nat} (hl : l ≤ 7) {B : List E} (hB : AllS (l : Int) B) (i : Nat) : ∀ {x : E}, InL l x → InL l (W (bE B) i x) := by
  induction i with
  | zero => intro x hx; rw [W]; exact hx
  | succ i ih =>
    intro x hx
    rw [W]
    exact inL_mul hl (ih hx) (inL_add (ih hx) (ih (allS_getD hB i)))
/-- The value of a polynomial of the space, from its tops. -/
theorem value_ev {l : Nat} (hl : l ≤ 7) {B : List E} (hB : AllS (l : Int) B) {k : Nat} (B' C : List S47) {x : E} (hx : InL l x) {i : Nat} (hik : i ≤ k) (hk : k ≤ 1000000) :
    Ev (fun q => linpoly_Space_value.f q (some ⟨(l : Int), B', (tops B k).map toS, C⟩) (i : Int) (toS x)) (toS (W (bE B) i x)) := by
  unfold linpoly_Space_value.f
  refine Ev.down (g := fun j q => linpoly_Space_value.j2 q (some ⟨(l : Int), B', (tops B k).map toS, C⟩) (i : Int) (j : Int) (hi (W (bE B) j x)) (lo (W (bE B) j x)) 0 0) (n := i) ?_ fun j hj hih => ?_
  · refine Ev.step (fun q => by rw [linpoly_Space_value.j2]) ?_
    exact Ev.neg (Int.lt_irrefl _) (Ev.ret' rfl)
  · refine Ev.step (fun q => by rw [linpoly_Space_value.j2]) ?_
    have f0 : (j : Int) < (i : Int) := by omega
    have f1 : j < ((tops B k).map toS).length := by rw [List.length_map, tops_length]; omega
    refine Ev.pos f0 (Ev.ixS f1 ?_)
    dsimp only
    rw [rdS, tops_get B (show j < k by omega), w64_succ hj (by omega)]
    have hy := inL_W hl hB j hx
    have hz := inL_W hl hB j (allS_getD hB j)
    exact Ev.bnd (Add_ev _ _) (Ev.bnd (Mul_ev hl hy (inL_add hy hz)) hih)
/-- The space that is made. -/
def spS (l : Nat) (B : List E) (k : Nat) : S84 := ⟨(l : Int), B.map toS, (tops B k).map toS, (backs B k).map toS⟩
theorem made_loop {l : Nat} (hl : l ≤ 7) {B : List E} (hB : AllS (l : Int) B) (hn : B.length ≤ 1000) :
    Ev (fun q => linpoly_New.l11 q (B.map toS) (B.length : Int) 0 (l : Int) (l : Int) (B.map toS) [] []) (some (spS l B B.length), 0) := by
  refine Ev.down (g := fun j q => linpoly_New.l11 q (B.map toS) (B.length : Int) (j : Int) (l : Int) (l : Int) (B.map toS) ((tops B j).map toS) ((backs B j).map toS)) (n := B.length) ?_ fun j hj hih => ?_
  · refine Ev.step (fun q => by rw [linpoly_New.l11]) ?_
    exact Ev.neg (Int.lt_irrefl _) (Ev.ret' rfl)
  · have f0 : (j : Int) < (B.length : Int) := by omega
    have f1 : j < (B.map toS).length := by rw [List.length_map]; exact hj
    have f2 : ∀ e : S47, ((tops B j).map toS).length + [e].length ≤ 140737488355328 / 16 := fun e => by rw [List.length_map, tops_length, List.length_singleton]; omega
    have f3 : ∀ e : S47, ((backs B j).map toS).length + [e].length ≤ 140737488355328 / 16 := fun e => by rw [List.length_map, backs_length, List.length_singleton]; omega
    refine Ev.step (fun q => by rw [linpoly_New.l11]) (Ev.pos f0 (Ev.ixS f1 ?_))
    rw [rdS, w64_succ hj (by omega)]
    have hw := inL_W hl hB j (allS_getD hB j)
    refine Ev.bnd (value_ev hl hB (B.map toS) _ (allS_getD hB j) (Nat.le_refl j) (by omega)) (Ev.pos (f2 _) (Ev.bnd (Inv_ev hl hw) (Ev.pos (f3 _) ?_)))
    rw [tops_succ, backs_succ, List.map_append, List.map_append] at hih
    exact hih
theorem clone_ev (X : List E) (hX : X.length ≤ 1000000) : Ev (fun k => slices_Clone44.f k (X.map toS)) (X.map toS) := by
  unfold slices_Clone44.f
  refine Ev.pos (by rw [List.length_map]; show 0 + X.length ≤ _; omega) (Ev.ret' ?_)
  rw [List.nil_append]
theorem newAll_ev (L : Int) (X : List E) (hX : X.length ≤ 4611686018427387904) : Ev (fun k => slices_ContainsFunc39_c81.f k (X.map toS) L) (!decide (AllS L X)) := by
  have hp : ∀ x, Ev (fun k => linpoly_New_1.f k (toS x) (some L)) (decide (¬ OfS L x)) := fun x => Ev.bnd (of_ev L x) (Ev.ret' (by rw [decide_not]))
  obtain ⟨r, h1, h2⟩ := index_gen (P := fun x => OfS L x) (l := fun k xs a n i => slices_IndexFunc64_c81.l2 k xs a n i) (p := linpoly_New_1.f) (fun k xs n i => by rw [slices_IndexFunc64_c81.l2]) hp X hX X.length 0 (by omega)
  unfold slices_ContainsFunc39_c81.f slices_IndexFunc64_c81.f
  rw [List.length_map]
  refine Ev.bnd h1 (Ev.ret' ?_)
  have h2 : r ≥ 0 ↔ ¬ AllS L X := h2
  by_cases c : AllS L X
  · rw [decide_eq_true c, decide_eq_false (fun g => (h2.1 g) c)]; rfl
  · rw [decide_eq_false c, decide_eq_true (h2.2 c)]; rfl
/-- What is wrong with a basis. -/
def newE (L : Int) (B : List E) : Int := if ¬ LvS L then 1 else if B.length > 10 then 2 else if ¬ AllS L B then 5 else if (basT B).length < B.length then 7 else 0
theorem New_ev (L : Int) (B : List E) (hn : B.length ≤ 1000000) : Ev (fun k => linpoly_New.f k L (B.map toS)) (if newE L B = 0 then some (spS L.toNat B B.length) else none, newE L B) := by
  unfold linpoly_New.f
  rw [List.length_map]
  by_cases c1 : LvS L
  · obtain ⟨v, hv, ev⟩ := wide_in c1
    refine Ev.bnd ev (Ev.neg hv ?_)
    by_cases c2 : B.length > 10
    · have e : newE L B = 2 := by unfold newE; rw [if_neg (by simpa using c1), if_pos c2]
      rw [e]
      exact Ev.pos (by omega) (Ev.ret _)
    · refine Ev.neg (by omega) (Ev.bnd (newAll_ev L B (by omega)) ?_)
      by_cases c3 : AllS L B
      · rw [decide_eq_true c3]
        refine Ev.neg (by decide) (Ev.bnd (Rank_ev B (by omega)) ?_)
        by_cases c4 : (basT B).length < B.length
        · have e : newE L B = 7 := by unfold newE; rw [if_neg (by simpa using c1), if_neg c2, if_neg (by simpa using c3), if_pos c4]
          rw [e]
          exact Ev.pos (by omega) (Ev.ret _)
        · have e : newE L B = 0 := by unfold newE; rw [if_neg (by simpa using c1), if_neg c2, if_neg (by simpa using c3), if_neg c4]
          obtain ⟨l, rfl⟩ := Int.eq_ofNat_of_zero_le c1.1
          rw [e]
          have h7 := c1.2
          exact Ev.neg (by omega) (Ev.bnd (clone_ev B hn) (made_loop (by omega) c3 (by omega)))
      · have e : newE L B = 5 := by unfold newE; rw [if_neg (by simpa using c1), if_neg c2, if_pos c3]
        rw [e, decide_eq_false c3]
        exact Ev.pos rfl (Ev.ret _)
  · have e : newE L B = 1 := by unfold newE; rw [if_pos c1]
    rw [e]
    exact Ev.bnd (wide_out c1) (Ev.pos rfl (Ev.ret _))
/-- A basis without fault. -/
structure Good (l : Nat) (B : List E) : Prop where
  lv : l ≤ 7
  len : B.length ≤ 10
  all : AllS (l : Int) B
  new : New (bE B) B.length
theorem take_range (B : List E) {i : Nat} (h : i ≤ B.length) : B.take i = (List.range i).map (bE B) := by
  refine ext_getD (by rw [List.length_take, List.length_map, List.length_range]; omega) fun j hj => ?_
  rw [List.length_take] at hj
  rw [getD_take (by omega), range_get _ (by omega)]
theorem indep_new (B : List E) : (basT B).length = B.length ↔ New (bE B) B.length := by
  rw [rank_eq, new_iff]
  unfold Indep
  constructor
  · intro h i hi
    have := h i hi
    rw [take_range B (by omega)] at this
    have e : B[i] = bE B i := by show _ = B.getD i 0; rw [List.getD_eq_getElem?_getD, List.getElem?_eq_getElem hi]; rfl
    rwa [e] at this
  · intro h i hi
    have := h i hi
    rw [take_range B (by omega)]
    have e : B[i] = bE B i := by show _ = B.getD i 0; rw [List.getD_eq_getElem?_getD, List.getElem?_eq_getElem hi]; rfl
    rwa [e]
theorem newE_zero (L : Int) (B : List E) : newE L B = 0 ↔ 0 ≤ L ∧ Good L.toNat B := by
  have hr := rank_le B
  constructor
  · intro h
    by_cases c1 : LvS L
    · by_cases c2 : B.length > 10
      · exfalso; unfold newE at h; rw [if_neg (by simpa using c1), if_pos c2] at h; exact absurd h (by decide)
      · by_cases c3 : AllS L B
        · by_cases c4 : (basT B).length < B.length
          · exfalso; unfold newE at h; rw [if_neg (by simpa using c1), if_neg c2, if_neg (by simpa using c3), if_pos c4] at h; exact absurd h (by decide)
          · obtain ⟨l, rfl⟩ := Int.eq_ofNat_of_zero_le c1.1
            have h7 := c1.2
            exact ⟨c1.1, by rw [Int.toNat_natCast]; omega, by omega, c3, (indep_new B).1 (by omega)⟩
        · exfalso; unfold newE at h; rw [if_neg (by simpa using c1), if_neg c2, if_pos c3] at h; exact absurd h (by decide)
    · exfalso; unfold newE at h; rw [if_pos c1] at h; exact absurd h (by decide)
  · rintro ⟨h0, g⟩
    obtain ⟨l, rfl⟩ := Int.eq_ofNat_of_zero_le h0
    have g : Good l B := g
    have h7 := g.lv
    have hlen := g.len
    have c1 : LvS (l : Int) := ⟨h0, by omega⟩
    have hk := (indep_new B).2 g.new
    have ha := g.all
    unfold newE
    rw [if_neg (by simpa using c1), if_neg (by omega), if_neg (by simpa using ha), if_neg (by omega)]
theorem Ev.at {α : Type} {g : Nat → Option α} {r : α} (K : Nat) (h : ∀ k, g (k + K) = some r) : Ev g r := ⟨K, fun k hk => by
  obtain ⟨d, rfl⟩ := Nat.le.dest hk
  rw [Nat.add_comm]; exact h d⟩
end Go.Proofs.YtbapldgapbmdkaaGreat.Sp
namespace Go.Proofs.YtbapldgapbmdkaaGreat.Sp
open Go.Proofs.YtbapldgapbmdkaaGreat.V.B Go.RowKit Go.Proofs.YtbapldgapbmdkaaGreat.B Go.Proofs.YtbapldgapbmdkaaGreat.V.B.Ar Go.Proofs.YtbapldgapbmdkaaGreat.V.B.Tw
set_option linter.unusedVariables false
set_option linter.unusedSimpArgs false
/-- The values by cases. -/
def vaE (l : Nat) (B : List E) (a : Int) (x : E) : E := if 0 ≤ a ∧ a ≤ (B.length : Int) ∧ InL l x then W (bE B) a.toNat x else 0
def nmE (l : Nat) (B : List E) (a : Int) (x : E) : E := if 0 ≤ a ∧ a < (B.length : Int) ∧ InL l x then Nm (bE B) a.toNat x else 0
theorem toS_out : (⟨0, 0⟩ : S47) = toS 0 := by unfold toS; rw [hi_zero, lo_zero]
theorem Value_j2 : Ev (fun k => linpoly_Space_Value.j2 k 0 0) (toS 0) := Ev.step (fun k => by rw [linpoly_Space_Value.j2]) (Ev.ret' toS_out)
theorem Value_ev {l : Nat} {B : List E} (g : Good l B) (a : Int) (x : E) : Ev (fun k => linpoly_Space_Value.f k (some (spS l B B.length)) a (toS x)) (toS (vaE l B a x)) := by
  have hl := g.lv
  have hlen := g.len
  have e0 : ((spS l B B.length).f1.length : Int) = (B.length : Int) := by unfold spS; dsimp only; rw [List.length_map]
  have e1 : (spS l B B.length).f0 = (l : Int) := rfl
  unfold linpoly_Space_Value.f
  dsimp only
  rw [e0, e1]
  by_cases c1 : a < 0
  · have e : vaE l B a x = 0 := if_neg (by omega)
    rw [e]; exact Ev.pos c1 Value_j2
  refine Ev.neg c1 ?_
  by_cases c2 : a > (B.length : Int)
  · have e : vaE l B a x = 0 := if_neg (by omega)
    rw [e]; exact Ev.pos c2 Value_j2
  refine Ev.neg c2 (Ev.bnd (of_ev _ x) ?_)
  by_cases c3 : InL l x
  · have e : vaE l B a x = W (bE B) a.toNat x := if_pos ⟨by omega, by omega, c3⟩
    obtain ⟨i, rfl⟩ := Int.eq_ofNat_of_zero_le (show 0 ≤ a by omega)
    rw [e, decide_eq_true (ofS_in hl c3), Int.toNat_natCast]
    refine Ev.neg (by decide) (Ev.bnd (value_ev hl g.all _ _ c3 (show i ≤ B.length by omega) (by omega)) (Ev.ret _))
  · have e : vaE l B a x = 0 := if_neg (fun h => c3 h.2.2)
    rw [e, decide_eq_false (fun h => c3 (by have h2 := h.2.2; rwa [Int.toNat_natCast] at h2))]
    exact Ev.pos rfl Value_j2
theorem Norm_j2 : Ev (fun k => linpoly_Space_Norm.j2 k 0 0) (toS 0) := Ev.step (fun k => by rw [linpoly_Space_Norm.j2]) (Ev.ret' toS_out)
theorem Norm_ev {l : Nat} {B : List E} (g : Good l B) (a : Int) (x : E) : Ev (fun k => linpoly_Space_Norm.f k (some (spS l B B.length)) a (toS x)) (toS (nmE l B a x)) := by
  have hl := g.lv
  have hlen := g.len
  have e0 : ((spS l B B.length).f1.length : Int) = (B.length : Int) := by unfold spS; dsimp only; rw [List.length_map]
  have e1 : (spS l B B.length).f0 = (l : Int) := rfl
  unfold linpoly_Space_Norm.f
  dsimp only
  rw [e0, e1]
  by_cases c1 : a < 0
  · have e : nmE l B a x = 0 := if_neg (by omega)
    rw [e]; exact Ev.pos c1 Norm_j2
  refine Ev.neg c1 ?_
  by_cases c2 : a ≥ (B.length : Int)
  · have e : nmE l B a x = 0 := if_neg (by omega)
    rw [e]; exact Ev.pos c2 Norm_j2
  refine Ev.neg c2 (Ev.bnd (of_ev _ x) ?_)
  by_cases c3 : InL l x
  · have e : nmE l B a x = Nm (bE B) a.toNat x := if_pos ⟨by omega, by omega, c3⟩
    obtain ⟨i, rfl⟩ := Int.eq_ofNat_of_zero_le (show 0 ≤ a by omega)
    rw [e, decide_eq_true (ofS_in hl c3), Int.toNat_natCast]
    have f0 : i < (spS l B B.length).f3.length := by unfold spS; dsimp only; rw [List.length_map, backs_length]; omega
    refine Ev.neg (by decide) (Ev.bnd (value_ev hl g.all _ _ c3 (show i ≤ B.length by omega) (by omega)) (Ev.ixS f0 ?_))
    have hw := inL_W hl g.all i (allS_getD g.all i)
    have hb : rd47 (spS l B B.length).f3 (i : Int) = toS (invT (W (bE B) i (bE B i))) := by
      show rd47 ((backs B B.length).map toS) (i : Int) = _
      rw [rdS, backs_get B (by omega)]
    rw [hb]
    exact Ev.bnd (Mul_ev hl (inL_W hl g.all i c3) (inL_inv hl hw)) (Ev.ret _)
  · have e : nmE l B a x = 0 := if_neg (fun h => c3 h.2.2)
    rw [e, decide_eq_false (fun h => c3 (by have h2 := h.2.2; rwa [Int.toNat_natCast] at h2))]
    exact Ev.pos rfl Norm_j2
theorem Dim_ev (l : Nat) (B : List E) : Ev (fun k => linpoly_Space_Dim.f k (some (spS l B B.length))) (B.length : Int) := ⟨0, fun k _ => by
  show some (((B.map toS).length : Nat) : Int) = _
  rw [List.length_map]⟩
theorem Level_ev (l : Nat) (B : List E) : Ev (fun k => linpoly_Space_Level.f k (some (spS l B B.length))) (l : Int) := ⟨0, fun k _ => rfl⟩
/-- A point of a basis. -/
theorem spanPoint_ev (X : List E) (hX : X.length ≤ 62) (j : Nat) (hj : j < 2 ^ 63) : Ev (fun k => span_Point.f k (X.map toS) (j : Int)) (toS (pt (bE X) X.length j)) := by
  unfold span_Point.f
  rw [List.length_map, if_neg (by omega)]
  suffices key : Ev (fun k => span_Point.l3 k (X.map toS) (j : Int) (X.length : Int) ((0 : Nat) : Int) 0 0 (hi (pt (bE X) 0 j)) (lo (pt (bE X) 0 j))) (toS (pt (bE X) X.length j)) by
    rw [show pt (bE X) 0 j = 0 from rfl, hi_zero, lo_zero] at key
    exact key
  refine Ev.down (g := fun i k => span_Point.l3 k (X.map toS) (j : Int) (X.length : Int) (i : Int) 0 0 (hi (pt (bE X) i j)) (lo (pt (bE X) i j))) (n := X.length) ?_ fun i hil hih => ?_
  · refine Ev.step (fun q => by rw [span_Point.l3]) ?_
    exact Ev.neg (Int.lt_irrefl _) (Ev.ret' rfl)
  · have f0 : (i : Int) < (X.length : Int) := by omega
    have f1 : i < (X.map toS).length := by rw [List.length_map]; exact hil
    refine Ev.step (fun q => by rw [span_Point.l3]) (Ev.pos f0 ?_)
    have same : j.testBit i = false → Ev (fun k => span_Point.j7 k (X.map toS) (j : Int) (X.length : Int) (i : Int) 0 0 (hi (pt (bE X) i j)) (lo (pt (bE X) i j))) (toS (pt (bE X) X.length j)) := fun h => by
      refine Ev.step (fun q => by rw [span_Point.j7]) ?_
      rw [w64_succ hil (by omega)]
      have e : pt (bE X) (i + 1) j = pt (bE X) i j := by rw [pt, h, if_neg Bool.false_ne_true, add_zero]
      rw [e] at hih
      exact hih
    by_cases c : (j : Int) > 0
    · refine Ev.pos c (Ev.pos (Int.natCast_nonneg _) ?_)
      rw [and_one j i hj (by omega)]
      by_cases d : j.testBit i = true
      · have d' : j / 2 ^ i % 2 = 1 := by rw [Nat.testBit_eq_decide_div_mod_eq] at d; simpa using d
        rw [d']
        refine Ev.pos rfl (Ev.ixS f1 ?_)
        rw [rdS]
        refine Ev.bnd (Add_ev _ _) (Ev.step (fun q => by rw [span_Point.j7]) ?_)
        rw [w64_succ hil (by omega)]
        have e : pt (bE X) (i + 1) j = pt (bE X) i j + X.getD i 0 := by rw [pt, if_pos d]
        rw [e] at hih
        exact hih
      · have d0 : j.testBit i = false := by simpa using d
        have d' : j / 2 ^ i % 2 = 0 := by rw [Nat.testBit_eq_decide_div_mod_eq] at d0; simp at d0; omega
        rw [d']
        exact Ev.neg (by decide) (same d0)
    · have : j = 0 := by omega
      subst this
      exact Ev.neg c (same (Nat.zero_testBit i))
theorem pt_more_le (b : Nat → E) {m j : Nat} (hj : j < 2 ^ m) : ∀ d, pt b (m + d) j = pt b m j
  | 0 => rfl
  | d + 1 => by
    have := Nat.pow_le_pow_right (n := 2) (by decide) (Nat.le_add_right m d)
    rw [← Nat.add_assoc, pt_more b (m + d) j (by omega), pt_more_le b hj d]
def ptE (B : List E) (a : Int) : E := if 0 ≤ a ∧ a < ((2 ^ B.length : Nat) : Int) then pt (bE B) B.length a.toNat else 0
theorem Point_j2 : Ev (fun k => linpoly_Space_Point.j2 k 0 0) (toS 0) := Ev.step (fun k => by rw [linpoly_Space_Point.j2]) (Ev.ret' toS_out)
theorem pow_len10 {n : Nat} (h : n ≤ 10) : 2 ^ n ≤ 1024 := Nat.pow_le_pow_right (n := 2) (by decide) h
theorem Point_ev {l : Nat} {B : List E} (g : Good l B) (a : Int) : Ev (fun k => linpoly_Space_Point.f k (some (spS l B B.length)) a) (toS (ptE B a)) := by
  have hlen := g.len
  have hp := pow_len10 hlen
  have e0 : ((spS l B B.length).f1.length : Int) = (B.length : Int) := by unfold spS; dsimp only; rw [List.length_map]
  unfold linpoly_Space_Point.f
  dsimp only
  rw [e0, shl_i64 B.length (by omega)]
  by_cases c1 : a < 0
  · have e : ptE B a = 0 := if_neg (by omega)
    rw [e]; exact Ev.pos c1 Point_j2
  refine Ev.neg c1 (Ev.pos (Int.natCast_nonneg _) ?_)
  by_cases c2 : a ≥ ((2 ^ B.length : Nat) : Int)
  · have e : ptE B a = 0 := if_neg (by omega)
    rw [e]; exact Ev.pos c2 Point_j2
  · have e : ptE B a = pt (bE B) B.length a.toNat := if_pos (by omega)
    obtain ⟨j, rfl⟩ := Int.eq_ofNat_of_zero_le (show 0 ≤ a by omega)
    rw [e, Int.toNat_natCast]
    exact Ev.neg c2 (Ev.bnd (spanPoint_ev B (by omega) j (by omega)) (Ev.ret _))
/-- The points of a coset. -/
def cosE (B : List E) (m : Nat) (x : E) : List E := (pts (bE B) m).map fun u => x + u
theorem cosE_length (B : List E) (m : Nat) (x : E) : (cosE B m x).length = 2 ^ m := by unfold cosE; rw [List.length_map, pts_length]
theorem cosE_get (B : List E) {m j : Nat} (h : j < 2 ^ m) (x : E) : (cosE B m x).getD j 0 = x + pt (bE B) m j := by
  have e := pts_get (bE B) m j h
  have hl : j < (pts (bE B) m).length := by rw [pts_length]; exact h
  rw [List.getD_eq_getElem?_getD, List.getElem?_eq_getElem hl] at e
  unfold cosE
  rw [List.getD_eq_getElem?_getD, List.getElem?_map, List.getElem?_eq_getElem hl]
  show x + (pts (bE B) m)[j] = _
  rw [show (pts (bE B) m)[j] = pt (bE B) m j from e]
def psE (l : Nat) (B : List E) (a : Int) (x : E) : List E := if 0 ≤ a ∧ a ≤ (B.length : Int) ∧ InL l x then cosE B a.toNat x else []
end Go.Proofs.YtbapldgapbmdkaaGreat.Sp
namespace Go.Proofs.YtbapldgapbmdkaaGreat.Sp
open Go.Proofs.YtbapldgapbmdkaaGreat.V.B Go.RowKit Go.Proofs.YtbapldgapbmdkaaGreat.B Go.Proofs.YtbapldgapbmdkaaGreat.V.B.Ar Go.Proofs.YtbapldgapbmdkaaGreat.V.B.Tw
set_option linter.unusedVariables false
set_option linter.unusedSimpArgs false
theorem cosE_succ (B : List E) (m : Nat) (x : E) : cosE B (m + 1) x = cosE B m x ++ (cosE B m x).map (· + B.getD m 0) := by
  unfold cosE
  rw [pts, List.map_append, List.map_map, List.map_map]
  congr 1
  apply List.map_congr_left
  intro u _
  show x + (u + B.getD m 0) = x + u + B.getD m 0
  rw [add_assoc]
theorem refPoints_ev (B : List E) (m : Nat) (hm : m ≤ B.length) (h10 : m ≤ 10) (x : E) : Ev (fun k => steepleref05_Points.f k (B.map toR) (m : Int) (toR x)) ((cosE B m x).map toR) := by
  unfold steepleref05_Points.f
  have h0 : [toR x] = (cosE B 0 x).map toR := by
    show [toR x] = [toR (x + 0)]
    rw [add_zero]
  rw [h0]
  refine Ev.down (g := fun i k => steepleref05_Points.l3 k (B.map toR) (m : Int) (i : Int) ((cosE B i x).map toR)) (n := m) ?_ fun i hil hih => ?_
  · refine Ev.step (fun q => by rw [steepleref05_Points.l3]) ?_
    exact Ev.neg (Int.lt_irrefl _) (Ev.ret' rfl)
  · have hp := pow_len10 (show i ≤ 10 by omega)
    have g0 : (i : Int) < (m : Int) := by omega
    refine Ev.step (fun q => by rw [steepleref05_Points.l3]) (Ev.pos g0 ?_)
    rw [List.length_map, cosE_length]
    have hz : (cosE B i x).map toR = (cosE B i x ++ ((cosE B i x).take 0).map (· + B.getD i 0)).map toR := by
      rw [List.take_zero]; simp
    rw [hz]
    refine Ev.down (g := fun j k => steepleref05_Points.l7 k (B.map toR) (m : Int) (i : Int) ((2 ^ i : Nat) : Int) (j : Int) ((cosE B i x ++ ((cosE B i x).take j).map (· + B.getD i 0)).map toR)) (n := 2 ^ i) ?_ fun j hj hjh => ?_
    · rw [List.take_of_length_le (by rw [cosE_length]; exact Nat.le_refl _), ← cosE_succ]
      refine Ev.step (fun q => by rw [steepleref05_Points.l7]) ?_
      refine Ev.neg (Int.lt_irrefl _) ?_
      rw [w64_succ hil (by omega)]
      exact hih
    · have f0 : (j : Int) < ((2 ^ i : Nat) : Int) := by omega
      have ll : (cosE B i x ++ ((cosE B i x).take j).map (· + B.getD i 0)).length = 2 ^ i + j := by
        rw [List.length_append, List.length_map, List.length_take, cosE_length]; omega
      have f1 : j < ((cosE B i x ++ ((cosE B i x).take j).map (· + B.getD i 0)).map toR).length := by rw [List.length_map, ll]; omega
      have f2 : i < (B.map toR).length := by rw [List.length_map]; omega
      have f3 : ∀ z : S48, ((cosE B i x ++ ((cosE B i x).take j).map (· + B.getD i 0)).map toR).length + [z].length ≤ 140737488355328 / 16 := fun z => by
        rw [List.length_map, ll, List.length_singleton]; omega
      have hg : (cosE B i x ++ ((cosE B i x).take j).map (· + B.getD i 0)).getD j 0 = (cosE B i x).getD j 0 := by
        rw [List.getD_eq_getElem?_getD, List.getElem?_append_left (by rw [cosE_length]; exact hj), ← List.getD_eq_getElem?_getD]
      rw [map_take_succ (· + B.getD i 0) (cosE B i x) 0 j (by rw [cosE_length]; exact hj), ← List.append_assoc, List.map_append] at hjh
      refine Ev.step (fun q => by rw [steepleref05_Points.l7]) (Ev.pos f0 (Ev.ixS f1 (Ev.ixS f2 ?_)))
      rw [rdR, rdR, hg, w64_succ hj (by omega)]
      exact Ev.bnd (refAdd_ev _ _) (Ev.pos (f3 _) hjh)
theorem prL_snoc (f : E → E) (l : List E) (a : E) : prL f (l ++ [a]) = prL f l * f a := by
  rw [prL_append]
  show prL f l * (f a * 1) = _
  rw [mul_one]
theorem cos_zero (B : List E) (m : Nat) : cosE B m 0 = pts (bE B) m := by
  unfold cosE
  conv => rhs; rw [← List.map_id (pts (bE B) m)]
  apply List.map_congr_left
  intro u _
  rw [zero_add]; rfl
theorem refValue_ev (B : List E) (m : Nat) (hm : m ≤ B.length) (h10 : m ≤ 10) (x : E) : Ev (fun k => steepleref05_Value.f k (B.map toR) (m : Int) (toR x)) (toR (W (bE B) m x)) := by
  have hp := pow_len10 h10
  have hP := refPoints_ev B m hm h10 0
  rw [cos_zero, show toR 0 = (⟨0, 0⟩ : S48) by unfold toR; rw [hi_zero, lo_zero]] at hP
  unfold steepleref05_Value.f
  refine Ev.bnd hP ?_
  rw [W_prod]
  have hl := pts_length (bE B) m
  generalize hPs : pts (bE B) m = P at hl ⊢
  suffices key : Ev (fun k => steepleref05_Value.l5 k ((0 : Nat) : Int) (hi x) (lo x) 0 0 (P.map toR) (hi (prL (fun u => x + u) (P.take 0))) (lo (prL (fun u => x + u) (P.take 0)))) (toR (prL (fun u => x + u) P)) by
    rw [show prL (fun u => x + u) (P.take 0) = 1 from rfl, hi_one, lo_one] at key
    exact key
  refine Ev.down (g := fun i k => steepleref05_Value.l5 k (i : Int) (hi x) (lo x) 0 0 (P.map toR) (hi (prL (fun u => x + u) (P.take i))) (lo (prL (fun u => x + u) (P.take i)))) (n := P.length) ?_ fun i hil hih => ?_
  · rw [List.take_of_length_le (Nat.le_refl _)]
    refine Ev.step (fun q => by rw [steepleref05_Value.l5]) ?_
    exact Ev.neg (by rw [List.length_map]; exact Int.lt_irrefl _) (Ev.ret' rfl)
  · have f0 : (i : Int) < ((P.map toR).length : Int) := by rw [List.length_map]; omega
    have f1 : i < (P.map toR).length := by rw [List.length_map]; exact hil
    have ht : P.take (i + 1) = P.take i ++ [P.getD i 0] := by
      rw [List.take_succ_eq_append_getElem hil, List.getD_eq_getElem?_getD, List.getElem?_eq_getElem hil]; rfl
    rw [ht, prL_snoc] at hih
    refine Ev.step (fun q => by rw [steepleref05_Value.l5]) (Ev.pos f0 (Ev.ixS f1 ?_))
    rw [rdR, w64_succ hil (by omega)]
    exact Ev.bnd (refAdd_ev _ _) (Ev.bnd (Product_ev _ _) hih)
theorem inL_zero_one {x : E} (h : InL 0 x) (h0 : x ≠ 0) : x = 1 := by
  apply val_inj
  have h1 : val x < 2 := h
  have h2 : val x ≠ 0 := fun e => h0 (val_eq_zero.1 e)
  rw [val_one]
  omega
theorem invT_one : invT (1 : E) = 1 := invT_of (mul_one _)
theorem refInv_ev {l : Nat} (hl : l ≤ 7) {x : E} (hx : InL l x) (h0 : x ≠ 0) : Ev (fun k => steepleref02_Inv.f k (l : Int) (toR x)) (toR (invT x)) := by
  unfold steepleref02_Inv.f
  refine Ev.bnd (refOf_ev _ x) ?_
  rw [decide_eq_true (ofS_in hl hx)]
  refine Ev.neg (by decide) ?_
  by_cases c : l = 0
  · subst c
    have e := inL_zero_one hx h0
    refine Ev.pos rfl (Ev.ret' ?_)
    rw [e, invT_one]
  · refine Ev.neg (by omega) ?_
    have hp : 2 ^ l ≤ 128 := Nat.pow_le_pow_right (n := 2) (by decide) hl
    have hp2 := Nat.two_pow_pos l
    rw [← psq_inv hl hx h0]
    suffices key : Ev (fun k => steepleref02_Inv.l9 k (l : Int) ((0 + 1 : Nat) : Int) 0 0 [1, 2, 4, 8, 16, 32, 64, 128] (hi (psq x 0)) (lo (psq x 0)) (hi (sqn 0 x)) (lo (sqn 0 x))) (toR (psq x (2 ^ l - 1))) by
      rw [show psq x 0 = 1 from rfl, show sqn 0 x = x from rfl, hi_one, lo_one] at key
      exact key
    have f1 : l < ([1, 2, 4, 8, 16, 32, 64, 128] : List Int).length := by show l < 8; omega
    refine Ev.down (g := fun i k => steepleref02_Inv.l9 k (l : Int) ((i + 1 : Nat) : Int) 0 0 [1, 2, 4, 8, 16, 32, 64, 128] (hi (psq x i)) (lo (psq x i)) (hi (sqn i x)) (lo (sqn i x))) (n := 2 ^ l - 1) ?_ fun i hil hih => ?_
    · refine Ev.step (fun q => by rw [steepleref02_Inv.l9]) (Ev.ixS f1 ?_)
      rw [Sp.rdL l hl]
      exact Ev.neg (by omega) (Ev.ret' rfl)
    · refine Ev.step (fun q => by rw [steepleref02_Inv.l9]) (Ev.ixS f1 ?_)
      rw [Sp.rdL l hl, w64_succ (show i + 1 < 2 ^ l by omega) (by omega)]
      refine Ev.pos (by omega) (Ev.bnd (Product_ev (sqn i x) (sqn i x)) (Ev.bnd (Product_ev (psq x i) (sqn i x * sqn i x)) ?_))
      exact hih
theorem refNorm_ev {l : Nat} {B : List E} (g : Good l B) {m : Nat} (hm : m < B.length) {x : E} : Ev (fun k => steepleref05_Norm.f k (l : Int) (B.map toR) (m : Int) (toR x)) (toR (Nm (bE B) m x)) := by
  have hlen := g.len
  unfold steepleref05_Norm.f
  refine Ev.bnd (refValue_ev B m (by omega) (by omega) x) (Ev.ixS (by rw [List.length_map]; exact hm) ?_)
  rw [rdR]
  exact Ev.bnd (refValue_ev B m (by omega) (by omega) _) (Ev.bnd (refInv_ev g.lv (inL_W g.lv g.all m (allS_getD g.all m)) (g.new m hm)) (Ev.bnd (Product_ev _ _) (Ev.ret _)))
end Go.Proofs.YtbapldgapbmdkaaGreat.Sp
namespace Go.Proofs.YtbapldgapbmdkaaGreat.Sp
open Go.Proofs.YtbapldgapbmdkaaGreat.V.B Go.RowKit Go.Proofs.YtbapldgapbmdkaaGreat.B Go.Proofs.YtbapldgapbmdkaaGreat.V.B.Ar Go.Proofs.YtbapldgapbmdkaaGreat.V.B.Tw
set_option linter.unusedVariables false
set_option linter.unusedSimpArgs false
def logFrom (n : Int) (k : Nat) : Nat → Int
  | 0 => -1
  | d + 1 => if n = ((2 ^ k : Nat) : Int) then (k : Int) else logFrom n (k + 1) d
def logI (n : Int) : Int := logFrom n 0 17
theorem logFrom_pow : ∀ (d k m : Nat), k ≤ m → m < k + d → logFrom ((2 ^ m : Nat) : Int) k d = (m : Int)
  | 0, k, m, h1, h2 => by omega
  | d + 1, k, m, h1, h2 => by
    rw [logFrom]
    by_cases c : m = k
    · rw [if_pos (by rw [c]), c]
    · rw [if_neg ?_, logFrom_pow d (k + 1) m (by omega) (by omega)]
      intro e
      have e' : 2 ^ m = 2 ^ k := by omega
      exact c ((Nat.pow_right_inj (by decide)).1 e')
theorem logI_pow {m : Nat} (h : m ≤ 16) : logI ((2 ^ m : Nat) : Int) = (m : Int) := logFrom_pow 17 0 m (by omega) (by omega)
theorem logFrom_inv : ∀ (d k : Nat) (n : Int), logFrom n k d = -1 ∨ ∃ m : Nat, k ≤ m ∧ m < k + d ∧ n = ((2 ^ m : Nat) : Int) ∧ logFrom n k d = (m : Int)
  | 0, k, n => Or.inl rfl
  | d + 1, k, n => by
    rw [logFrom]
    by_cases c : n = ((2 ^ k : Nat) : Int)
    · rw [if_pos c]; exact Or.inr ⟨k, by omega, by omega, c, rfl⟩
    · rw [if_neg c]
      rcases logFrom_inv d (k + 1) n with h | ⟨m, h1, h2, h3, h4⟩
      · exact Or.inl h
      · exact Or.inr ⟨m, by omega, by omega, h3, h4⟩
theorem logI_inv (n : Int) : logI n = -1 ∨ ∃ m : Nat, m ≤ 16 ∧ n = ((2 ^ m : Nat) : Int) ∧ logI n = (m : Int) := by
  rcases logFrom_inv 17 0 n with h | ⟨m, _, h2, h3, h4⟩
  · exact Or.inl h
  · exact Or.inr ⟨m, by omega, h3, h4⟩
end Go.Proofs.YtbapldgapbmdkaaGreat.Sp
namespace Go.Proofs.YtbapldgapbmdkaaGreat.Sp
open Go.Proofs.YtbapldgapbmdkaaGreat.V.B Go.RowKit Go.Proofs.YtbapldgapbmdkaaGreat.B Go.Proofs.YtbapldgapbmdkaaGreat.V.B.Ar Go.Proofs.YtbapldgapbmdkaaGreat.V.B.Tw
set_option linter.unusedVariables false
set_option linter.unusedSimpArgs false
theorem size_l2 (n : Nat) (C : List S47) (hn : n ≤ 20) : ∀ (d k : Nat), k + d = n → Ev (fun q => antt_size.l2 q C (n : Int) (k : Int)) (logFrom (C.length : Int) k d) := by
  intro d
  induction d with
  | zero =>
    intro k hk
    refine Ev.step (fun q => by rw [antt_size.l2]) ?_
    exact Ev.neg (by omega) (Ev.ret _)
  | succ d ih =>
    intro k hk
    have f0 : (k : Int) < (n : Int) := by omega
    refine Ev.step (fun q => by rw [antt_size.l2]) (Ev.pos f0 (Ev.pos (Int.natCast_nonneg _) ?_))
    rw [shl_i64 k (by omega), w64_succ (show k < n by omega) (by omega), logFrom]
    by_cases c : (C.length : Int) = ((2 ^ k : Nat) : Int)
    · rw [if_pos c]; exact Ev.pos c (Ev.ret _)
    · rw [if_neg c]; exact Ev.neg c (ih (k + 1) (by omega))
theorem size_ev {l : Nat} {B : List E} (hB : B.length ≤ 10) (C : List S47) : Ev (fun k => antt_size.f k (some (spS l B B.length)) C) (logFrom (C.length : Int) 0 (B.length + 1)) := by
  unfold antt_size.f
  refine Ev.bnd (Dim_ev l B) ?_
  rw [w64_succ (show B.length < B.length + 1 by omega) (by omega)]
  exact size_l2 (B.length + 1) C (by omega) (B.length + 1) 0 (by omega)
/-- Is there such a number of values? -/
def Sz (B C : List E) (m : Nat) : Prop := m ≤ B.length ∧ C.length = 2 ^ m
theorem log_sz {B C : List E} {m d : Nat} (h : Sz B C m) (hd : m < d) : logFrom (C.length : Int) 0 d = (m : Int) := by
  rw [h.2]; exact logFrom_pow d 0 m (Nat.zero_le _) (by omega)
theorem log_no {B C : List E} (h : ∀ m, ¬ Sz B C m) : logFrom (C.length : Int) 0 (B.length + 1) = -1 := by
  rcases logFrom_inv (B.length + 1) 0 (C.length : Int) with e | ⟨m, _, h2, h3, _⟩
  · exact e
  · exact absurd ⟨by omega, by exact_mod_cast h3⟩ (h m)
theorem log_big {B C : List E} (h : ∀ m, ¬ Sz B C m) : logFrom (C.length : Int) 0 21 < 0 ∨ logFrom (C.length : Int) 0 21 > (B.length : Int) := by
  rcases logFrom_inv 21 0 (C.length : Int) with e | ⟨m, _, h2, h3, h4⟩
  · left; rw [e]; decide
  · right
    rw [h4]
    apply Classical.byContradiction
    intro g
    exact h m ⟨by omega, by exact_mod_cast h3⟩
theorem allAsk_ev {l : Nat} {B : List E} (X : List E) (hX : X.length ≤ 4611686018427387904) : Ev (fun k => slices_ContainsFunc39_c66.f k (X.map toS) (some (spS l B B.length))) (!decide (AllS (l : Int) X)) := by
  have hp : ∀ x, Ev (fun k => antt_ask_1.f k (toS x) (some (some (spS l B B.length)))) (decide (¬ OfS (l : Int) x)) := fun x => by
    unfold antt_ask_1.f
    refine Ev.bnd (Level_ev l B) (Ev.bnd (of_ev _ x) (Ev.ret' ?_))
    rw [decide_not]
  suffices key : ∀ d i, i + d = X.length → ∃ r : Int, Ev (fun k => slices_IndexFunc64_c66.l2 k (X.map toS) (some (spS l B B.length)) (X.length : Int) (i : Int)) r ∧ (r ≥ 0 ↔ ¬ AllS (l : Int) (X.drop i)) by
    obtain ⟨r, h1, h2⟩ := key X.length 0 (by omega)
    unfold slices_ContainsFunc39_c66.f slices_IndexFunc64_c66.f
    rw [List.length_map]
    refine Ev.bnd h1 (Ev.ret' ?_)
    have h2 : r ≥ 0 ↔ ¬ AllS (l : Int) X := h2
    by_cases c : AllS (l : Int) X
    · rw [decide_eq_true c, decide_eq_false (fun g => (h2.1 g) c)]; rfl
    · rw [decide_eq_false c, decide_eq_true (h2.2 c)]; rfl
  intro d
  induction d with
  | zero =>
    intro i hi
    have : i = X.length := by omega
    subst this
    have z : Ev (fun k => slices_IndexFunc64_c66.l2 k (X.map toS) (some (spS l B B.length)) (X.length : Int) (X.length : Int)) (-1) := by
      refine Ev.step (fun k => by rw [slices_IndexFunc64_c66.l2]) ?_
      exact Ev.neg (Int.lt_irrefl _) (Ev.ret _)
    refine ⟨-1, z, ?_⟩
    rw [List.drop_length]
    exact ⟨fun h => absurd h (by decide), fun h => absurd (fun x hx => by cases hx) h⟩
  | succ d ih =>
    intro i hi
    have hi' : i < X.length := by omega
    obtain ⟨r, h1, h2⟩ := ih (i + 1) (by omega)
    have hd := allS_drop (L := (l : Int)) hi'
    have f0 : (i : Int) < (X.length : Int) := by omega
    have f1 : i < (X.map toS).length := by rw [List.length_map]; exact hi'
    have go : ∀ {r : Int}, Ev (fun k => (antt_ask_1.f k (toS (X.getD i 0)) (some (some (spS l B B.length)))).bind fun r => if r = true then some (i : Int) else slices_IndexFunc64_c66.l2 k (X.map toS) (some (spS l B B.length)) (X.length : Int) ((i + 1 : Nat) : Int)) r → Ev (fun k => slices_IndexFunc64_c66.l2 k (X.map toS) (some (spS l B B.length)) (X.length : Int) (i : Int)) r := fun h => by
      refine Ev.step (fun k => by rw [slices_IndexFunc64_c66.l2]) (Ev.pos f0 (Ev.ixS f1 ?_))
      rw [rdS, w64_succ hi' hX]
      exact h
    by_cases c : OfS (l : Int) (X.getD i 0)
    · refine ⟨r, go (Ev.bnd (hp _) (Ev.neg (by simpa using c) h1)), h2.trans ?_⟩
      rw [hd]
      exact ⟨fun h g => h g.2, fun h g => h ⟨c, g⟩⟩
    · refine ⟨(i : Int), go (Ev.bnd (hp _) (Ev.pos (by simpa using c) (Ev.ret _))), ?_⟩
      rw [hd]
      exact ⟨fun _ g => c g.1, fun _ => Int.natCast_nonneg _⟩
/-- Asking: fit, or the fault. -/
theorem ask_fit {l : Nat} {B : List E} (g : Good l B) {C : List E} {m : Nat} (h : Sz B C m) (hC : AllS (l : Int) C) {s : E} (hs : InL l s) : Ev (fun k => antt_ask.f k (some (spS l B B.length)) (C.map toS) (toS s)) ((m : Int), 0) := by
  have hlen := g.len
  have hm := h.1
  have hp := pow_len10 (show m ≤ 10 by omega)
  have hc := h.2
  have e := size_ev (l := l) (B := B) (by omega) (C.map toS)
  rw [List.length_map, log_sz h (show m < B.length + 1 by omega)] at e
  have a := allAsk_ev (l := l) (B := B) C (by omega)
  rw [decide_eq_true hC] at a
  unfold antt_ask.f
  refine Ev.bnd e (Ev.neg (by omega) (Ev.bnd (Level_ev l B) (Ev.bnd (of_ev _ s) ?_)))
  rw [decide_eq_true (ofS_in g.lv hs)]
  exact Ev.neg (by decide) (Ev.bnd a (Ev.neg (by decide) (Ev.ret _)))
theorem ask_size {l : Nat} {B : List E} (g : Good l B) {C : List E} (h : ∀ m, ¬ Sz B C m) (s : E) : Ev (fun k => antt_ask.f k (some (spS l B B.length)) (C.map toS) (toS s)) (0, 6) := by
  have hlen := g.len
  have e := size_ev (l := l) (B := B) (by omega) (C.map toS)
  rw [List.length_map, log_no h] at e
  unfold antt_ask.f
  exact Ev.bnd e (Ev.pos (by decide) (Ev.ret _))
theorem ask_field {l : Nat} {B : List E} (g : Good l B) {C : List E} {m : Nat} (h : Sz B C m) {s : E} (hn : ¬ (AllS (l : Int) C ∧ InL l s)) : Ev (fun k => antt_ask.f k (some (spS l B B.length)) (C.map toS) (toS s)) (0, 5) := by
  have hlen := g.len
  have hm := h.1
  have hp := pow_len10 (show m ≤ 10 by omega)
  have hc := h.2
  have e := size_ev (l := l) (B := B) (by omega) (C.map toS)
  rw [List.length_map, log_sz h (show m < B.length + 1 by omega)] at e
  have a := allAsk_ev (l := l) (B := B) C (by omega)
  unfold antt_ask.f
  refine Ev.bnd e (Ev.neg (by omega) (Ev.bnd (Level_ev l B) (Ev.bnd (of_ev _ s) ?_)))
  by_cases c : InL l s
  · rw [decide_eq_true (ofS_in g.lv c)]
    rw [decide_eq_false fun z => hn ⟨z, c⟩] at a
    exact Ev.neg (by decide) (Ev.bnd a (Ev.pos rfl (Ev.ret _)))
  · rw [decide_eq_false fun z => c (by have := z.2.2; rwa [Int.toNat_natCast] at this)]
    exact Ev.pos rfl (Ev.ret _)
theorem inL_pt {l : Nat} {B : List E} (hB : AllS (l : Int) B) (j : Nat) : ∀ m, InL l (pt (bE B) m j) := by
  intro m
  induction m with
  | zero => exact inL_zero l
  | succ m ih =>
    rw [pt]
    refine inL_add ih ?_
    by_cases c : j.testBit m = true
    · rw [if_pos c]; exact allS_getD hB m
    · rw [if_neg c]; exact inL_zero l
theorem inL_Nm {l : Nat} (hl : l ≤ 7) {B : List E} (hB : AllS (l : Int) B) (i : Nat) {x : E} (hx : InL l x) : InL l (Nm (bE B) i x) :=
  inL_mul hl (inL_W hl hB i hx) (inL_inv hl (inL_W hl hB i (allS_getD hB i)))
theorem inL_twi {l : Nat} (hl : l ≤ 7) {B : List E} (hB : AllS (l : Int) B) {s : E} (hs : InL l s) (i block : Nat) : InL l (twi (bE B) B.length s i block) :=
  inL_Nm hl hB i (inL_add hs (inL_pt hB _ _))
theorem twist_ev {l : Nat} {B : List E} (g : Good l B) {s : E} (hs : InL l s) {i block : Nat} (h : block * 2 ^ (i + 1) < 2 ^ B.length) (hib : i < B.length) : Ev (fun k => antt_twist.f k (some (spS l B B.length)) (i : Int) (block : Int) (toS s)) (toS (twi (bE B) B.length s i block)) := by
  have hl := g.lv
  have hlen := g.len
  have hp := pow_len10 hlen
  have ew := w64_succ hib (show B.length ≤ 4611686018427387904 by omega)
  have esh : shl .i64 (block : Int) ((i + 1 : Nat) : Int) = ((block * 2 ^ (i + 1) : Nat) : Int) := by
    unfold shl
    have h64 : IntKind.i64.bits = 64 := rfl
    rw [h64, Int.toNat_natCast, Nat.min_eq_left (by omega)]
    have hc : ((block : Int) * 2 ^ (i + 1)) = ((block * 2 ^ (i + 1) : Nat) : Int) := by simp
    rw [hc]
    generalize block * 2 ^ (i + 1) = z at *
    exact i64_id (by omega) (by omega)
  have ep : ptE B ((block * 2 ^ (i + 1) : Nat) : Int) = pt (bE B) B.length (block * 2 ^ (i + 1)) := if_pos ⟨Int.natCast_nonneg _, Int.ofNat_lt.2 h⟩
  have ev := Point_ev g ((block * 2 ^ (i + 1) : Nat) : Int)
  rw [ep] at ev
  have hx := inL_add hs (inL_pt g.all (block * 2 ^ (i + 1)) B.length)
  have en : nmE l B (i : Int) (s + pt (bE B) B.length (block * 2 ^ (i + 1))) = twi (bE B) B.length s i block := if_pos ⟨by omega, by omega, hx⟩
  have evn := Norm_ev g (i : Int) (s + pt (bE B) B.length (block * 2 ^ (i + 1)))
  rw [en] at evn
  unfold antt_twist.f
  rw [ew, esh]
  exact Ev.pos (Int.natCast_nonneg _) (Ev.bnd ev (Ev.bnd (Add_ev _ _) (Ev.bnd evn (Ev.ret _))))
/-- The places of a block. -/
theorem place_low {h B j : Nat} (hb : 2 * h * B + j + h ≤ 100000) (hh : h ≤ 1000000) : wrap64 (wrap64 (wrap64 (2 * (h : Int)) * (B : Int)) + (j : Int)) = ((2 * h * B + j : Nat) : Int) := by
  have e1 : wrap64 (2 * (h : Int)) = ((2 * h : Nat) : Int) := by rw [w64_id (by omega) (by omega)]; omega
  have e2 : ((2 * h : Nat) : Int) * (B : Int) = ((2 * h * B : Nat) : Int) := by simp
  rw [e1, e2]
  generalize 2 * h * B = z at *
  rw [w64_id (x := (z : Int)) (by omega) (by omega), w64_id (by omega) (by omega)]
  omega
theorem place_high {h B j : Nat} (hb : 2 * h * B + j + h ≤ 100000) (hh : h ≤ 1000000) : wrap64 (wrap64 (wrap64 (wrap64 (2 * (h : Int)) * (B : Int)) + (h : Int)) + (j : Int)) = ((2 * h * B + j + h : Nat) : Int) := by
  have e1 : wrap64 (2 * (h : Int)) = ((2 * h : Nat) : Int) := by rw [w64_id (by omega) (by omega)]; omega
  have e2 : ((2 * h : Nat) : Int) * (B : Int) = ((2 * h * B : Nat) : Int) := by simp
  rw [e1, e2]
  generalize 2 * h * B = z at *
  rw [w64_id (x := (z : Int)) (by omega) (by omega), w64_id (x := (z : Int) + (h : Int)) (by omega) (by omega), w64_id (by omega) (by omega)]
  omega
theorem rl_map {M : Nat} (f : Nat → E) : ((rl M f).map toS).length = M := by rw [List.length_map, rl_length]
end Go.Proofs.YtbapldgapbmdkaaGreat.Sp
namespace Go.Proofs.YtbapldgapbmdkaaGreat.Sp
open Go.Proofs.YtbapldgapbmdkaaGreat.V.B Go.RowKit Go.Proofs.YtbapldgapbmdkaaGreat.B Go.Proofs.YtbapldgapbmdkaaGreat.V.B.Ar Go.Proofs.YtbapldgapbmdkaaGreat.V.B.Tw
set_option linter.unusedVariables false
set_option linter.unusedSimpArgs false
/-- A block, forwards. -/
theorem fwd_block {l : Nat} (hl : l ≤ 7) {B : List E} {i M block N : Nat} (hN : M = 2 * 2 ^ i * N) (hb : block < N) (hM : M ≤ 4096) (f : Nat → E) (hf : ∀ q, InL l (f q)) (t : Nat → E) (ht : ∀ q, InL l (t q)) (s : E) {R : List S47 × Int}
    (h : Ev (fun k => antt_Forward.l10 k (some (spS l B B.length)) (i : Int) ((2 ^ i : Nat) : Int) (N : Int) ((block + 1 : Nat) : Int) (hi s) (lo s) ((rl M (stF (2 ^ i) (block + 1) 0 f (fly t i f))).map toS)) R) :
    Ev (fun k => antt_Forward.l14 k (some (spS l B B.length)) (i : Int) ((2 ^ i : Nat) : Int) (block : Int) (N : Int) (block : Int) ((2 ^ i : Nat) : Int) 0 (hi s) (lo s) ((rl M (stF (2 ^ i) block 0 f (fly t i f))).map toS) (hi (t block)) (lo (t block))) R := by
  have hh := Nat.two_pow_pos i
  have hq := Nat.mul_le_mul_left (2 * 2 ^ i) hb
  rw [Nat.mul_succ, ← hN] at hq
  have hbs : block < M := by
    have : block ≤ 2 * 2 ^ i * block := Nat.le_mul_of_pos_left _ (by omega)
    omega
  refine Ev.down (g := fun j k => antt_Forward.l14 k (some (spS l B B.length)) (i : Int) ((2 ^ i : Nat) : Int) (block : Int) (N : Int) (block : Int) ((2 ^ i : Nat) : Int) (j : Int) (hi s) (lo s) ((rl M (stF (2 ^ i) block j f (fly t i f))).map toS) (hi (t block)) (lo (t block))) (n := 2 ^ i) ?_ fun j hj hjh => ?_
  · refine Ev.step (fun k => by rw [antt_Forward.l14]) (Ev.neg (Int.lt_irrefl _) ?_)
    rw [st_next hh, w64_succ hbs (by omega)]
    exact h
  · have f0 : (j : Int) < ((2 ^ i : Nat) : Int) := by omega
    have q1 : 2 * 2 ^ i * block + j + 2 ^ i ≤ 100000 := by omega
    have q2 : 2 ^ i ≤ 1000000 := by omega
    have q3 : 2 ^ i ≤ 4611686018427387904 := by omega
    have hP : 2 * 2 ^ i * block + j + 2 ^ i < M := by omega
    have p1 := place_low (h := 2 ^ i) (B := block) (j := j) q1 q2
    have p2 := place_high (h := 2 ^ i) (B := block) (j := j) q1 q2
    have hs := st_set hj M f (fly t i f) (B := block)
    have g1 := st_low hj f (fly t i f) (B := block)
    have g2 := st_high hj f (fly t i f) (B := block)
    have v1 := fly_low t i f hj (B := block)
    have v2 := fly_high t i f hj (B := block)
    have ws := w64_succ (show j < 2 ^ i from hj) q3
    refine Ev.step (fun k => by rw [antt_Forward.l14]) ?_
    rw [p1, p2, ws]
    clear p1 p2 ws
    generalize hPe : 2 * 2 ^ i * block + j = p at *
    have i1 : p < ((rl M (stF (2 ^ i) block j f (fly t i f))).map toS).length := by rw [rl_map]; omega
    have i2 : p + 2 ^ i < ((rl M (stF (2 ^ i) block j f (fly t i f))).map toS).length := by rw [rl_map]; omega
    have i3 : ∀ {x : S47} {q : Nat}, q < M → q < (((rl M (stF (2 ^ i) block j f (fly t i f))).map toS).set p x).length := fun h => by rw [List.length_set, rl_map]; exact h
    refine Ev.pos f0 (Ev.ixS i1 (Ev.bnd (Level_ev l B) (Ev.ixS i2 ?_)))
    rw [rdS, rdS, rl_get M _ 0 hP, rl_get M _ 0 (show p < M by omega), g1, g2]
    refine Ev.bnd (Mul_ev hl (ht block) (hf _)) (Ev.bnd (Add_ev _ _) ?_)
    rw [← v1, Int.toNat_natCast, map_set]
    have i4 : ∀ {q : Nat}, q < M → q < (((rl M (stF (2 ^ i) block j f (fly t i f))).set p (fly t i f p)).map toS).length := fun h => by rw [List.length_map, List.length_set, rl_length]; exact h
    refine Ev.ixS i1 (Ev.ixS (i4 (show p < M by omega)) (Ev.ixS (i4 hP) ?_))
    rw [rdS, rdS, getD_set_self (by rw [rl_length]; omega), getD_set_ne (by omega), rl_get M _ 0 hP, g2]
    refine Ev.bnd (Add_ev _ _) ?_
    have e3 : fly t i f p + f (p + 2 ^ i) = fly t i f (p + 2 ^ i) := by rw [v1, v2]
    rw [e3, Int.toNat_natCast, map_set, hs]
    exact Ev.ixS (i4 hP) hjh
theorem tdiv_pow {M h N : Nat} (hN : M = 2 * h * N) (hh : 0 < h) (hM : M ≤ 4096) (hh2 : h ≤ 4096) : wrap64 (Int.tdiv (M : Int) (wrap64 (2 * (h : Int)))) = (N : Int) := by
  have e1 : wrap64 (2 * (h : Int)) = ((2 * h : Nat) : Int) := by rw [w64_id (by omega) (by omega)]; omega
  have e2 : M / (2 * h) = N := by rw [hN, Nat.mul_div_cancel_left _ (by omega)]
  have hNM : N ≤ M := by rw [← e2]; exact Nat.div_le_self _ _
  rw [e1, Int.tdiv_eq_ediv_of_nonneg (Int.natCast_nonneg _)]
  have e3 : ((M : Int) / ((2 * h : Nat) : Int)) = ((M / (2 * h) : Nat) : Int) := by simp
  rw [e3, e2, w64_id (by omega) (by omega)]
/-- All levels, forwards. -/
theorem fwd_loop {l : Nat} {B : List E} (g : Good l B) {s : E} (hs : InL l s) {m : Nat} (hm : m ≤ B.length) : ∀ (i : Nat), i ≤ m → ∀ (f : Nat → E), (∀ q, InL l (f q)) →
    Ev (fun k => antt_Forward.l6 k (some (spS l B B.length)) ((i : Int) - 1) (hi s) (lo s) ((rl (2 ^ m) f).map toS)) ((rl (2 ^ m) (fwd (twi (bE B) B.length s) i f)).map toS, 0) := by
  have hl := g.lv
  have hlen := g.len
  have hp := pow_len10 (show m ≤ 10 by omega)
  intro i
  induction i with
  | zero =>
    intro _ f _
    refine Ev.step (fun k => by rw [antt_Forward.l6]) ?_
    exact Ev.neg (by decide) (Ev.ret _)
  | succ i ih =>
    intro him f hf
    have hh := Nat.two_pow_pos i
    have ec : ((i + 1 : Nat) : Int) - 1 = (i : Int) := by omega
    have hN : 2 ^ m = 2 * 2 ^ i * 2 ^ (m - (i + 1)) := by
      rw [show 2 * 2 ^ i = 2 ^ (i + 1) by rw [Nat.pow_succ, Nat.mul_comm], ← Nat.pow_add, Nat.add_sub_cancel' him]
    have hi2 : 2 ^ i ≤ 2 ^ m := Nat.pow_le_pow_right (by decide) (by omega)
    have ht := fun block => inL_twi hl g.all hs i block
    have hfl : ∀ q, InL l (fly (twi (bE B) B.length s i) i f q) := fun q => by
      unfold fly
      by_cases c : q % (2 * 2 ^ i) < 2 ^ i
      · rw [if_pos c]; exact inL_add (hf _) (inL_mul hl (ht _) (hf _))
      · rw [if_neg c]; exact inL_add (inL_add (hf _) (inL_mul hl (ht _) (hf _))) (hf _)
    have k1 : 2 ^ m ≤ 4096 := by omega
    have k2 : 2 ^ i ≤ 4096 := by omega
    have k3 : i ≤ 62 := by omega
    have e2 : ¬ wrap64 (2 * ((2 ^ i : Nat) : Int)) = 0 := by rw [w64_id (by omega) (by omega)]; omega
    have next := ih (by omega) (fly (twi (bE B) B.length s i) i f) hfl
    have es := shl_i64 i k3
    have et := tdiv_pow hN hh k1 k2
    rw [ec]
    clear ec
    refine Ev.step (fun k => by rw [antt_Forward.l6]) (Ev.pos (Int.natCast_nonneg _) (Ev.pos (Int.natCast_nonneg _) ?_))
    rw [es, rl_map, et]
    refine Ev.neg e2 ?_
    clear es et e2
    have h0 : (rl (2 ^ m) f) = rl (2 ^ m) (stF (2 ^ i) 0 0 f (fly (twi (bE B) B.length s i) i f)) := by rw [st_start]
    rw [h0]
    refine Ev.down (g := fun block k => antt_Forward.l10 k (some (spS l B B.length)) (i : Int) ((2 ^ i : Nat) : Int) ((2 ^ (m - (i + 1)) : Nat) : Int) (block : Int) (hi s) (lo s) ((rl (2 ^ m) (stF (2 ^ i) block 0 f (fly (twi (bE B) B.length s i) i f))).map toS)) (n := 2 ^ (m - (i + 1))) ?_ fun block hb hbh => ?_
    · refine Ev.step (fun k => by rw [antt_Forward.l10]) (Ev.neg (Int.lt_irrefl _) ?_)
      have ew : wrap64 ((i : Int) - 1) = (i : Int) - 1 := w64_id (by omega) (by omega)
      rw [ew, rl_congr (2 ^ m) fun q hq => st_end (by rw [← hN]; exact hq) f (fly (twi (bE B) B.length s i) i f)]
      exact next
    · have f0 : (block : Int) < ((2 ^ (m - (i + 1)) : Nat) : Int) := by omega
      have hq := Nat.mul_le_mul_left (2 * 2 ^ i) hb
      rw [Nat.mul_succ, ← hN] at hq
      have hbt : block * 2 ^ (i + 1) < 2 ^ B.length := by
        have hmb : 2 ^ m ≤ 2 ^ B.length := Nat.pow_le_pow_right (by decide) hm
        rw [Nat.pow_succ, Nat.mul_comm (2 ^ i) 2, Nat.mul_comm]
        omega
      exact Ev.step (fun k => by rw [antt_Forward.l10]) (Ev.pos f0 (Ev.bnd (twist_ev g hs hbt (by omega)) (fwd_block hl hN hb (by omega) f hf _ ht s hbh)))
/-- What Forward tells. -/
def fwL (B : List E) (s : E) (m : Nat) (C : List E) : List E := rl (2 ^ m) (fwd (twi (bE B) B.length s) m fun q => C.getD q 0)
theorem Forward_fit {l : Nat} {B : List E} (g : Good l B) {C : List E} {m : Nat} (h : Sz B C m) (hC : AllS (l : Int) C) {s : E} (hs : InL l s) : Ev (fun k => antt_Forward.f k (some (spS l B B.length)) (C.map toS) (toS s)) ((fwL B s m C).map toS, 0) := by
  have hlen := g.len
  have hm := h.1
  have hc := h.2
  have hp := pow_len10 (show m ≤ 10 by omega)
  have hl := fwd_loop g hs h.1 m (Nat.le_refl _) (fun q => C.getD q 0) fun q => allS_getD hC q
  have e : rl (2 ^ m) (fun q => C.getD q 0) = C := by rw [← hc]; exact (rl_of C 0).symm
  have ew : wrap64 ((m : Int) - 1) = (m : Int) - 1 := w64_id (by omega) (by omega)
  rw [e] at hl
  unfold antt_Forward.f
  refine Ev.bnd (ask_fit g h hC hs) (Ev.pos rfl ?_)
  have hcl : Ev (fun k => slices_Clone44.f k (C.map toS)) (C.map toS) := clone_ev C (by omega)
  refine Ev.bnd hcl ?_
  rw [ew]
  exact hl
theorem Forward_size {l : Nat} {B : List E} (g : Good l B) {C : List E} (h : ∀ m, ¬ Sz B C m) (s : E) : Ev (fun k => antt_Forward.f k (some (spS l B B.length)) (C.map toS) (toS s)) ([], 6) := by
  unfold antt_Forward.f
  exact Ev.bnd (ask_size g h s) (Ev.neg (by decide) (Ev.ret _))
theorem Forward_field {l : Nat} {B : List E} (g : Good l B) {C : List E} {m : Nat} (h : Sz B C m) {s : E} (hn : ¬ (AllS (l : Int) C ∧ InL l s)) : Ev (fun k => antt_Forward.f k (some (spS l B B.length)) (C.map toS) (toS s)) ([], 5) := by
  unfold antt_Forward.f
  exact Ev.bnd (ask_field g h hn) (Ev.neg (by decide) (Ev.ret _))
end Go.Proofs.YtbapldgapbmdkaaGreat.Sp
namespace Go.Proofs.YtbapldgapbmdkaaGreat.Sp
open Go.Proofs.YtbapldgapbmdkaaGreat.V.B Go.RowKit Go.Proofs.YtbapldgapbmdkaaGreat.B Go.Proofs.YtbapldgapbmdkaaGreat.V.B.Ar Go.Proofs.YtbapldgapbmdkaaGreat.V.B.Tw
set_option linter.unusedVariables false
set_option linter.unusedSimpArgs false
theorem refBasis6_ev {l : Nat} {B : List E} (g : Good l B) (r : Nat) (hr : r < 2 ^ 62) (x : E) : Ev (fun k => steepleref06_Basis.f k (l : Int) (B.map toR) (r : Int) (toR x)) (toR (Xv (bE B) B.length r x)) := by
  have hlen := g.len
  unfold steepleref06_Basis.f
  suffices key : Ev (fun k => steepleref06_Basis.l4 k (l : Int) (B.map toR) ((r / 2 ^ 0 : Nat) : Int) ((0 : Nat) : Int) (hi x) (lo x) 0 0 (hi (Xv (bE B) 0 r x)) (lo (Xv (bE B) 0 r x))) (toR (Xv (bE B) B.length r x)) by
    rw [show Xv (bE B) 0 r x = 1 from rfl, hi_one, lo_one, Nat.pow_zero, Nat.div_one] at key
    exact key
  refine Ev.down (g := fun i k => steepleref06_Basis.l4 k (l : Int) (B.map toR) ((r / 2 ^ i : Nat) : Int) (i : Int) (hi x) (lo x) 0 0 (hi (Xv (bE B) i r x)) (lo (Xv (bE B) i r x))) (n := B.length) ?_ fun i hil hih => ?_
  · refine Ev.step (fun q => by rw [steepleref06_Basis.l4]) ?_
    exact Ev.neg (by rw [List.length_map]; exact Int.lt_irrefl _) (Ev.ret' rfl)
  · have f0 : (i : Int) < ((B.map toR).length : Int) := by rw [List.length_map]; omega
    have hq : r / 2 ^ i ≤ r := Nat.div_le_self _ _
    have em : Int.tmod ((r / 2 ^ i : Nat) : Int) 2 = ((r / 2 ^ i % 2 : Nat) : Int) := by rw [Int.tmod_eq_emod_of_nonneg (Int.natCast_nonneg _)]; omega
    have ed : wrap64 (Int.tdiv ((r / 2 ^ i : Nat) : Int) 2) = ((r / 2 ^ (i + 1) : Nat) : Int) := by
      rw [Nat.pow_succ, ← Nat.div_div_eq_div_mul, Int.tdiv_eq_ediv_of_nonneg (Int.natCast_nonneg _)]
      generalize r / 2 ^ i = z at hq
      rw [w64_id (by omega) (by omega)]
      omega
    have ei := w64_succ hil (show B.length ≤ 4611686018427387904 by omega)
    refine Ev.step (fun q => by rw [steepleref06_Basis.l4]) (Ev.pos f0 ?_)
    rw [em, ed, ei]
    clear em ed ei
    by_cases d : r.testBit i = true
    · have d' : r / 2 ^ i % 2 = 1 := by rw [Nat.testBit_eq_decide_div_mod_eq] at d; simpa using d
      have e : Xv (bE B) (i + 1) r x = Xv (bE B) i r x * Nm (bE B) i x := by rw [Xv, if_pos d]
      rw [d']
      rw [e] at hih
      exact Ev.pos rfl (Ev.bnd (refNorm_ev g hil) (Ev.bnd (Product_ev _ _) hih))
    · have d0 : r.testBit i = false := by simpa using d
      have d' : r / 2 ^ i % 2 = 0 := by rw [Nat.testBit_eq_decide_div_mod_eq] at d0; simp at d0; omega
      have e : Xv (bE B) (i + 1) r x = Xv (bE B) i r x := by rw [Xv, d0, if_neg Bool.false_ne_true, mul_one]
      rw [d']
      rw [e] at hih
      exact Ev.neg (by decide) hih
def exF (B C : List E) (x : E) : Nat → E := fun r => C.getD r 0 * Xv (bE B) B.length r x
theorem refEval6_ev {l : Nat} {B : List E} (g : Good l B) (C : List E) (hC : C.length ≤ 1000000) (x : E) : Ev (fun k => steepleref06_Eval.f k (l : Int) (B.map toR) (C.map toR) (toR x)) (toR (smT (exF B C x) C.length)) := by
  unfold steepleref06_Eval.f
  suffices key : Ev (fun k => steepleref06_Eval.l3 k (l : Int) (B.map toR) (C.map toR) ((0 : Nat) : Int) (hi x) (lo x) 0 0 (hi (smT (exF B C x) 0)) (lo (smT (exF B C x) 0))) (toR (smT (exF B C x) C.length)) by
    rw [show smT (exF B C x) 0 = 0 from rfl, hi_zero, lo_zero] at key
    exact key
  refine Ev.down (g := fun i k => steepleref06_Eval.l3 k (l : Int) (B.map toR) (C.map toR) (i : Int) (hi x) (lo x) 0 0 (hi (smT (exF B C x) i)) (lo (smT (exF B C x) i))) (n := C.length) ?_ fun i hil hih => ?_
  · refine Ev.step (fun q => by rw [steepleref06_Eval.l3]) ?_
    exact Ev.neg (by rw [List.length_map]; exact Int.lt_irrefl _) (Ev.ret' rfl)
  · have f1 : i < (C.map toR).length := by rw [List.length_map]; exact hil
    have f0 : (i : Int) < ((C.map toR).length : Int) := by omega
    have hb : i < 2 ^ 62 := by omega
    have e : smT (exF B C x) (i + 1) = smT (exF B C x) i + C.getD i 0 * Xv (bE B) B.length i x := rfl
    rw [e] at hih
    refine Ev.step (fun q => by rw [steepleref06_Eval.l3]) (Ev.pos f0 (Ev.ixS f1 ?_))
    rw [rdR, w64_succ hil (by omega)]
    exact Ev.bnd (refBasis6_ev g i hb x) (Ev.bnd (Product_ev _ _) (Ev.bnd (refAdd_ev _ _) hih))
theorem fwL_length (B : List E) (s : E) (m : Nat) (C : List E) : (fwL B s m C).length = 2 ^ m := rl_length _ _
theorem fwL_get {l : Nat} {B : List E} (g : Good l B) {C : List E} {m : Nat} (h : Sz B C m) (s : E) {p : Nat} (hp : p < 2 ^ m) : (fwL B s m C).getD p 0 = smT (exF B C (s + pt (bE B) m p)) C.length := by
  unfold fwL
  rw [rl_get _ _ _ hp, fwd_value (bE B) g.new s m h.1, Nat.div_eq_of_lt hp, Nat.mul_zero, pt_le (bE B) h.1 hp, h.2]
  refine smT_congr _ fun r hr => ?_
  unfold exF
  rw [Nat.zero_add, Xv_le (bE B) _ h.1 hr]
theorem same_self (X : List E) (h : X.length ≤ 1000000) : Ev (fun k => steeplelaw01_Same.f k (X.map toS) (X.map toR)) true := by
  have := Same_ev X X h
  rwa [decide_eq_true rfl] at this
end Go.Proofs.YtbapldgapbmdkaaGreat.Sp
namespace Go.Proofs.YtbapldgapbmdkaaGreat.Sp
open Go.Proofs.YtbapldgapbmdkaaGreat.V.B Go.RowKit Go.Proofs.YtbapldgapbmdkaaGreat.B Go.Proofs.YtbapldgapbmdkaaGreat.V.B.Ar Go.Proofs.YtbapldgapbmdkaaGreat.V.B.Tw
set_option linter.unusedVariables false
set_option linter.unusedSimpArgs false
theorem novelOf_ev (L : Int) (X : List E) (hX : X.length ≤ 4611686018427387904) : Ev (fun k => novel_of.f k L (X.map toS)) (decide (AllS L X)) := by
  have hp : ∀ x, Ev (fun k => novel_of_1.f k (toS x) (some L)) (decide (¬ OfS L x)) := fun x => Ev.bnd (of_ev L x) (Ev.ret' (by rw [decide_not]))
  obtain ⟨r, h1, h2⟩ := index_gen (P := fun x => OfS L x) (l := fun k xs a n i => slices_IndexFunc64_c74.l2 k xs a n i) (p := novel_of_1.f) (fun k xs n i => by rw [slices_IndexFunc64_c74.l2]) hp X hX X.length 0 (by omega)
  unfold novel_of.f slices_ContainsFunc39_c74.f slices_IndexFunc64_c74.f
  rw [List.length_map]
  refine Ev.bnd (Ev.bnd h1 (Ev.ret _)) (Ev.ret' ?_)
  have h2 : r ≥ 0 ↔ ¬ AllS L X := h2
  by_cases c : AllS L X
  · rw [decide_eq_true c, decide_eq_false (fun g => (h2.1 g) c)]; rfl
  · rw [decide_eq_false c, decide_eq_true (h2.2 c)]; rfl
theorem novelAsk_ev {l : Nat} {B : List E} (g : Good l B) {C : List E} (hC : C.length ≤ 2 ^ B.length) (aC : AllS (l : Int) C) : Ev (fun k => novel_ask.f k (some (spS l B B.length)) (C.map toS)) 0 := by
  have hlen := g.len
  have hp := pow_len10 hlen
  have a := novelOf_ev (l : Int) C (by omega)
  rw [decide_eq_true aC] at a
  have es := shl_i64 B.length (by omega)
  unfold novel_ask.f
  refine Ev.bnd (Dim_ev l B) (Ev.pos (Int.natCast_nonneg _) ?_)
  rw [es, List.length_map]
  clear es
  exact Ev.neg (by omega) (Ev.bnd (Level_ev l B) (Ev.bnd a (Ev.neg (by decide) (Ev.ret _))))
theorem inL_Xv {l : Nat} (hl : l ≤ 7) {B : List E} (hB : AllS (l : Int) B) {x : E} (hx : InL l x) (r : Nat) : ∀ i, InL l (Xv (bE B) i r x) := by
  intro i
  induction i with
  | zero => exact inL_one l
  | succ i ih =>
    rw [Xv]
    refine inL_mul hl ih ?_
    by_cases c : r.testBit i = true
    · rw [if_pos c]; exact inL_Nm hl hB i hx
    · rw [if_neg c]; exact inL_one l
def xvE (l : Nat) (B : List E) (a : Int) (x : E) : E := if 0 ≤ a ∧ a < ((2 ^ B.length : Nat) : Int) ∧ InL l x then Xv (bE B) B.length a.toNat x else 0
def fdL (r : E) (X : List E) : List E := rl ((X.length + 1) / 2) (foldL r (fun q => X.getD q 0) X.length)
theorem fdL_length (r : E) (X : List E) : (fdL r X).length = (X.length + 1) / 2 := rl_length _ _
theorem getD_out {X : List E} {q : Nat} (h : X.length ≤ q) : X.getD q 0 = 0 := by
  rw [List.getD_eq_getElem?_getD, List.getElem?_eq_none h]; rfl
end Go.Proofs.YtbapldgapbmdkaaGreat.Sp
namespace Go.Proofs.YtbapldgapbmdkaaGreat.Sp
open Go.Proofs.YtbapldgapbmdkaaGreat.V.B Go.RowKit Go.Proofs.YtbapldgapbmdkaaGreat.B Go.Proofs.YtbapldgapbmdkaaGreat.V.B.Ar Go.Proofs.YtbapldgapbmdkaaGreat.V.B.Tw
set_option linter.unusedVariables false
set_option linter.unusedSimpArgs false
def cf (C : List E) (i : Nat) : E := C.getD i 0
theorem cf_out {C : List E} {i : Nat} (h : C.length ≤ i) : cf C i = 0 := getD_out h
def cvT (C D : List E) (k t : Nat) : E := if t ≤ k then cf C t * cf D (k - t) else 0
theorem cv_mul (C D : List E) (k : Nat) : smT (cvT C D k) C.length = mulP (cf C) (cf D) k := by
  have h1 : smT (cvT C D k) (C.length + (k + 1)) = smT (cvT C D k) C.length := smT_more (Nat.le_add_right _ _) fun i hi _ => by
    unfold cvT
    by_cases c : i ≤ k
    · rw [if_pos c, cf_out hi, zero_mul]
    · rw [if_neg c]
  have h2 : smT (cvT C D k) (C.length + (k + 1)) = smT (cvT C D k) (k + 1) := smT_more (Nat.le_add_left _ _) fun i hi _ => by
    unfold cvT; rw [if_neg (by omega)]
  rw [← h1, h2]
  unfold mulP
  exact smT_congr _ fun i hi => by unfold cvT; rw [if_pos (by omega)]
def cvL (C D : List E) : List E := rl (C.length + D.length - 1) (mulP (cf C) (cf D))
theorem cvL_length (C D : List E) : (cvL C D).length = C.length + D.length - 1 := rl_length _ _
def rowS (C D : List E) (i j k : Nat) : E := smT (cvT C D k) i + (if i ≤ k ∧ k < i + j then cf C i * cf D (k - i) else 0)
theorem rowS_zero (C D : List E) (i k : Nat) : rowS C D i 0 k = smT (cvT C D k) i := by
  unfold rowS; rw [if_neg (by omega), add_zero]
theorem rowS_end (C D : List E) (i k : Nat) : rowS C D i D.length k = rowS C D (i + 1) 0 k := by
  rw [rowS_zero, smT]
  unfold rowS cvT
  congr 1
  by_cases c : i ≤ k
  · by_cases d : k < i + D.length
    · rw [if_pos ⟨c, d⟩, if_pos c]
    · rw [if_neg (fun h => d h.2), if_pos c, cf_out (show D.length ≤ k - i by omega), mul_zero]
  · rw [if_neg (fun h => c h.1), if_neg c]
theorem rowS_set (C D : List E) {i j N : Nat} (h : i + j < N) : (rl N (rowS C D i j)).set (i + j) (rowS C D i j (i + j) + cf C i * cf D j) = rl N (rowS C D i (j + 1)) := by
  rw [rl_set]
  refine rl_congr N fun q hq => ?_
  unfold rowS
  by_cases c : q = i + j
  · subst c
    rw [if_pos rfl, if_neg (by omega), if_pos (by omega), add_zero, Nat.add_sub_cancel_left]
  · rw [if_neg c]
    congr 1
    by_cases d : i ≤ q ∧ q < i + j
    · rw [if_pos d, if_pos (by omega)]
    · rw [if_neg d, if_neg (by omega)]
theorem nTimes_loop {l : Nat} (hl : l ≤ 7) {C D : List E} (aC : AllS (l : Int) C) (aD : AllS (l : Int) D) (hC : C.length ≤ 100) (hD : D.length ≤ 100) (h0 : 0 < C.length) (h1 : 0 < D.length) :
    Ev (fun k => novel_Times.l5 k (l : Int) (D.map toS) (C.map toS) (C.length : Int) 0 ((rl (C.length + D.length - 1) (rowS C D 0 0)).map toS)) ((cvL C D).map toS) := by
  refine Ev.down (g := fun i k => novel_Times.l5 k (l : Int) (D.map toS) (C.map toS) (C.length : Int) (i : Int) ((rl (C.length + D.length - 1) (rowS C D i 0)).map toS)) (n := C.length) ?_ fun i hil hih => ?_
  · have e : rl (C.length + D.length - 1) (rowS C D C.length 0) = cvL C D := rl_congr _ fun q _ => by rw [rowS_zero, cv_mul]
    rw [e]
    refine Ev.step (fun q => by rw [novel_Times.l5]) ?_
    exact Ev.neg (Int.lt_irrefl _) (Ev.ret' rfl)
  · have f1 : i < (C.map toS).length := by rw [List.length_map]; exact hil
    have f0 : (i : Int) < (C.length : Int) := by omega
    refine Ev.step (fun q => by rw [novel_Times.l5]) (Ev.pos f0 (Ev.ixS f1 ?_))
    rw [rdS, List.length_map]
    refine Ev.down (g := fun j k => novel_Times.l8 k (l : Int) (D.map toS) (i : Int) (C.map toS) (C.length : Int) (i : Int) (D.map toS) (D.length : Int) (j : Int) ((rl (C.length + D.length - 1) (rowS C D i j)).map toS) (hi (C.getD i 0)) (lo (C.getD i 0))) (n := D.length) ?_ fun j hj hjh => ?_
    · rw [rl_congr _ fun q _ => rowS_end C D i q]
      refine Ev.step (fun q => by rw [novel_Times.l8]) (Ev.neg (Int.lt_irrefl _) ?_)
      rw [w64_succ hil (by omega)]
      exact hih
    · have g1 : j < (D.map toS).length := by rw [List.length_map]; exact hj
      have g0 : (j : Int) < (D.length : Int) := by omega
      have hN : i + j < C.length + D.length - 1 := by omega
      have g2 : i + j < ((rl (C.length + D.length - 1) (rowS C D i j)).map toS).length := by rw [rl_map]; exact hN
      have es := rowS_set C D hN
      have ew := w64_add (i := i) (j := j) (by omega) (by omega)
      have ej := w64_succ hj (show D.length ≤ 4611686018427387904 by omega)
      refine Ev.step (fun q => by rw [novel_Times.l8]) (Ev.pos g0 (Ev.ixS g1 ?_))
      rw [ew, ej, rdS, rdS, rl_get _ _ 0 hN]
      clear ew ej
      refine Ev.ixS g2 (Ev.bnd (Mul_ev hl (allS_getD aC i) (allS_getD aD j)) (Ev.bnd (Add_ev _ _) (Ev.ixS g2 ?_)))
      rw [Int.toNat_natCast, map_set]
      rw [show rowS C D i j (i + j) + C.getD i 0 * D.getD j 0 = rowS C D i j (i + j) + cf C i * cf D j from rfl, es]
      exact hjh
def tmE (L : Int) (C D : List E) : List E := if C.length = 0 ∨ D.length = 0 ∨ ¬ AllS L C ∨ ¬ AllS L D then [] else cvL C D
theorem nTimes_j2 : Ev (fun k => novel_Times.j2 k) (([] : List E).map toS) := ⟨1, fun k hk => by obtain ⟨d, rfl⟩ := Nat.exists_eq_add_of_le' hk; rfl⟩
theorem lv_of_all {L : Int} {C : List E} (h : AllS L C) (h0 : 0 < C.length) : LvS L := by
  have := h (C[0]) (List.getElem_mem h0)
  exact ⟨this.1, this.2.1⟩
theorem nTimes_ev (L : Int) (C D : List E) (hC : C.length ≤ 100) (hD : D.length ≤ 100) : Ev (fun k => novel_Times.f k L (C.map toS) (D.map toS)) ((tmE L C D).map toS) := by
  unfold novel_Times.f
  rw [List.length_map, List.length_map]
  by_cases c1 : C.length = 0
  · have e : tmE L C D = [] := if_pos (.inl c1)
    rw [e]; exact Ev.pos (by omega) nTimes_j2
  refine Ev.neg (by omega) ?_
  by_cases c2 : D.length = 0
  · have e : tmE L C D = [] := if_pos (.inr (.inl c2))
    rw [e]; exact Ev.pos (by omega) nTimes_j2
  refine Ev.neg (by omega) ?_
  by_cases c3 : AllS L C
  · have hv := lv_of_all c3 (by omega)
    obtain ⟨v, v0, ev⟩ := wide_in hv
    have a := novelOf_ev L C (by omega)
    rw [decide_eq_true c3] at a
    refine Ev.bnd ev (Ev.neg v0 (Ev.bnd a (Ev.neg (by decide) ?_)))
    have b := novelOf_ev L D (by omega)
    by_cases c4 : AllS L D
    · rw [decide_eq_true c4] at b
      have e : tmE L C D = cvL C D := if_neg (by
        rintro (h | h | h | h)
        · exact c1 h
        · exact c2 h
        · exact h c3
        · exact h c4)
      obtain ⟨l, rfl⟩ := Int.eq_ofNat_of_zero_le hv.1
      have h7 := hv.2
      have e1 : wrap64 (wrap64 ((C.length : Int) + (D.length : Int)) - 1) = ((C.length + D.length - 1 : Nat) : Int) := by
        rw [w64_add (by omega) (by omega), w64_id (by omega) (by omega)]; omega
      have f1 : ((C.length + D.length - 1 : Nat) : Int) ≤ 140737488355328 / ((16 : Nat) : Int) := by omega
      have hz : List.replicate (C.length + D.length - 1) z47 = (rl (C.length + D.length - 1) (rowS C D 0 0)).map toS := by
        have : rl (C.length + D.length - 1) (rowS C D 0 0) = List.replicate (C.length + D.length - 1) 0 := by
          refine ext_getD (by rw [rl_length, List.length_replicate]) fun p hp => ?_
          rw [rl_length] at hp
          rw [rl_get _ _ 0 hp, rowS_zero, List.getD_eq_getElem?_getD, List.getElem?_replicate, if_pos hp]; rfl
        rw [this, List.map_replicate, toS_zero]
      refine Ev.bnd b (Ev.neg (by decide) ?_)
      rw [e1, e, Int.toNat_natCast, hz]
      clear e1
      exact Ev.pos (Int.natCast_nonneg _) (Ev.pos f1 (nTimes_loop (by omega) c3 c4 hC hD (by omega) (by omega)))
    · rw [decide_eq_false c4] at b
      have e : tmE L C D = [] := if_pos (.inr (.inr (.inr c4)))
      rw [e]
      exact Ev.bnd b (Ev.pos rfl nTimes_j2)
  · have e : tmE L C D = [] := if_pos (.inr (.inr (.inl c3)))
    rw [e]
    by_cases hv : LvS L
    · obtain ⟨v, v0, ev⟩ := wide_in hv
      have a := novelOf_ev L C (by omega)
      rw [decide_eq_false c3] at a
      exact Ev.bnd ev (Ev.neg v0 (Ev.bnd a (Ev.pos rfl nTimes_j2)))
    · exact Ev.bnd (wide_out hv) (Ev.pos rfl nTimes_j2)
end Go.Proofs.YtbapldgapbmdkaaGreat.Sp
namespace Go.Proofs.YtbapldgapbmdkaaGreat.Sp
open Go.Proofs.YtbapldgapbmdkaaGreat.V.B Go.RowKit Go.Proofs.YtbapldgapbmdkaaGreat.B Go.Proofs.YtbapldgapbmdkaaGreat.V.B.Ar Go.Proofs.YtbapldgapbmdkaaGreat.V.B.Tw
set_option linter.unusedVariables false
set_option linter.unusedSimpArgs false
def atE (L : Int) (C : List E) (z : E) : E := if OfS L z ∧ AllS L C then evP (cf C) C.length z else 0
def hnT (C : List E) (z : E) (i : Nat) : E := smT (fun k => cf C (i + k) * pwT z k) (C.length - i)
theorem pwT_mul (z : E) (k : Nat) : pwT z (k + 1) = z * pwT z k := by rw [pwT, mul_comm]
theorem hn_step (C : List E) (z : E) {i : Nat} (h : i < C.length) : hnT C z (i + 1) * z + cf C i = hnT C z i := by
  unfold hnT
  rw [show C.length - i = (C.length - (i + 1)) + 1 by omega]
  exact smT_horner (cf C) z i (C.length - (i + 1))
theorem inL_hn {l : Nat} (hl : l ≤ 7) {C : List E} (aC : AllS (l : Int) C) {z : E} (hz : InL l z) : ∀ d i, i + d = C.length → InL l (hnT C z i) := by
  intro d
  induction d with
  | zero =>
    intro i h
    unfold hnT
    rw [show C.length - i = 0 by omega]
    exact inL_zero l
  | succ d ih =>
    intro i h
    rw [← hn_step C z (by omega)]
    exact inL_add (inL_mul hl (ih (i + 1) (by omega)) hz) (allS_getD aC i)
theorem nAt_ev (L : Int) (C : List E) (hC : C.length ≤ 1000) (z : E) : Ev (fun k => novel_At.f k L (C.map toS) (toS z)) (toS (atE L C z)) := by
  unfold novel_At.f
  refine Ev.bnd (of_ev L z) ?_
  by_cases c1 : OfS L z
  · rw [decide_eq_true c1]
    refine Ev.neg (by decide) ?_
    have a := novelOf_ev L C (by omega)
    by_cases c2 : AllS L C
    · rw [decide_eq_true c2] at a
      have e : atE L C z = hnT C z 0 := by
        unfold atE hnT evP
        rw [if_pos ⟨c1, c2⟩, Nat.sub_zero]
        exact smT_congr _ fun k _ => by rw [Nat.zero_add]
      obtain ⟨l, rfl⟩ := Int.eq_ofNat_of_zero_le c1.1
      have hl7 := c1.2.1
      have hl : l ≤ 7 := by omega
      have hz : InL l z := by have := c1.2.2; rwa [Int.toNat_natCast] at this
      have ew : wrap64 ((C.length : Int) - 1) = (C.length : Int) - 1 := w64_id (by omega) (by omega)
      refine Ev.bnd a (Ev.neg (by decide) ?_)
      rw [List.length_map, ew, e]
      clear ew
      suffices key : ∀ i, i ≤ C.length → Ev (fun k => novel_At.l5 k (l : Int) (C.map toS) ((i : Int) - 1) (hi z) (lo z) 0 0 (hi (hnT C z i)) (lo (hnT C z i))) (toS (hnT C z 0)) by
        have := key C.length (Nat.le_refl _)
        rw [show hnT C z C.length = 0 by unfold hnT; rw [Nat.sub_self]; rfl, hi_zero, lo_zero] at this
        exact this
      intro i
      induction i with
      | zero =>
        intro _
        refine Ev.step (fun k => by rw [novel_At.l5]) ?_
        exact Ev.neg (by decide) (Ev.ret' rfl)
      | succ i ih =>
        intro hi1
        have f1 : i < (C.map toS).length := by rw [List.length_map]; omega
        have hh := inL_hn hl c2 hz (C.length - (i + 1)) (i + 1) (by omega)
        have es := hn_step C z (show i < C.length by omega)
        have next := ih (by omega)
        have ec : ((i + 1 : Nat) : Int) - 1 = (i : Int) := by omega
        have ew : wrap64 ((i : Int) - 1) = (i : Int) - 1 := w64_id (by omega) (by omega)
        rw [← es] at next
        rw [ec]
        clear ec
        refine Ev.step (fun k => by rw [novel_At.l5]) (Ev.pos (Int.natCast_nonneg _) (Ev.bnd (Mul_ev hl hh hz) (Ev.ixS f1 ?_)))
        rw [rdS, ew]
        exact Ev.bnd (Add_ev _ _) next
    · rw [decide_eq_false c2] at a
      have e : atE L C z = 0 := if_neg fun h => c2 h.2
      rw [e]
      exact Ev.bnd a (Ev.pos rfl (Ev.ret' toS_out))
  · have e : atE L C z = 0 := if_neg fun h => c1 h.1
    rw [e, decide_eq_false c1]
    exact Ev.pos rfl (Ev.ret' toS_out)
def dgI (C : List E) : Nat → Int
  | 0 => -1
  | i + 1 => if C.getD i 0 = 0 then dgI C i else (i : Int)
theorem nDegree_ev (C : List E) (hC : C.length ≤ 1000000) : Ev (fun k => novel_Degree.f k (C.map toS)) (dgI C C.length) := by
  have ew : wrap64 ((C.length : Int) - 1) = (C.length : Int) - 1 := w64_id (by omega) (by omega)
  unfold novel_Degree.f
  rw [List.length_map, ew]
  clear ew
  suffices key : ∀ i, i ≤ C.length → Ev (fun k => novel_Degree.l2 k (C.map toS) ((i : Int) - 1)) (dgI C i) from key _ (Nat.le_refl _)
  intro i
  induction i with
  | zero =>
    intro _
    refine Ev.step (fun k => by rw [novel_Degree.l2]) ?_
    exact Ev.neg (by decide) (Ev.ret' rfl)
  | succ i ih =>
    intro hi1
    have f1 : i < (C.map toS).length := by rw [List.length_map]; omega
    have next := ih (by omega)
    have ec : ((i + 1 : Nat) : Int) - 1 = (i : Int) := by omega
    have ew : wrap64 ((i : Int) - 1) = (i : Int) - 1 := w64_id (by omega) (by omega)
    rw [ec, dgI]
    clear ec
    refine Ev.step (fun k => by rw [novel_Degree.l2]) (Ev.pos (Int.natCast_nonneg _) (Ev.ixS f1 ?_))
    rw [rdS, ew]
    by_cases c : C.getD i 0 = 0
    · rw [if_pos c]; exact Ev.pos ((eq_zero_iff _).1 c) next
    · rw [if_neg c]; exact Ev.neg (fun h => c ((eq_zero_iff _).2 h)) (Ev.ret _)
theorem at_times {l : Nat} (hl : l ≤ 7) {C D : List E} (aC : AllS (l : Int) C) (aD : AllS (l : Int) D) (h0 : 0 < C.length) (h1 : 0 < D.length) {z : E} (hz : InL l z) : atE (l : Int) (cvL C D) z = atE (l : Int) C z * atE (l : Int) D z := by
  have aV : AllS (l : Int) (cvL C D) := fun x hx => by
    obtain ⟨q, _, rfl⟩ := List.mem_map.1 hx
    refine ofS_in hl ?_
    unfold mulP
    have : ∀ m, InL l (smT (fun i => cf C i * cf D (q - i)) m) := fun m => by
      induction m with
      | zero => exact inL_zero l
      | succ m ih => exact inL_add ih (inL_mul hl (allS_getD aC _) (allS_getD aD _))
    exact this _
  have oz := ofS_in hl hz
  have e1 : atE (l : Int) (cvL C D) z = evP (mulP (cf C) (cf D)) (C.length + D.length - 1) z := by
    unfold atE
    rw [if_pos ⟨oz, aV⟩, cvL_length]
    unfold evP
    exact smT_congr _ fun k hk => by rw [show cf (cvL C D) k = mulP (cf C) (cf D) k from rl_get _ _ 0 hk]
  have e2 : atE (l : Int) C z = evP (cf C) (C.length - 1 + 1) z := by unfold atE; rw [if_pos ⟨oz, aC⟩, Nat.sub_add_cancel h0]
  have e3 : atE (l : Int) D z = evP (cf D) (D.length - 1 + 1) z := by unfold atE; rw [if_pos ⟨oz, aD⟩, Nat.sub_add_cancel h1]
  rw [e1, e2, e3, ← evP_mul (p := C.length - 1) (q := D.length - 1) (fun i hi' => cf_out (by omega)) (fun j hj => cf_out (by omega)), show C.length - 1 + (D.length - 1) + 1 = C.length + D.length - 1 by omega]
theorem inL_at {l : Nat} (hl : l ≤ 7) (C : List E) (z : E) : InL l (atE (l : Int) C z) := by
  unfold atE
  by_cases c : OfS (l : Int) z ∧ AllS (l : Int) C
  · rw [if_pos c]
    have hz : InL l z := by have := c.1.2.2; rwa [Int.toNat_natCast] at this
    have hp : ∀ k, InL l (pwT z k) := fun k => by
      induction k with
      | zero => exact inL_one l
      | succ k ih => exact inL_mul hl ih hz
    have : ∀ m, InL l (evP (cf C) m z) := fun m => by
      induction m with
      | zero => exact inL_zero l
      | succ m ih => exact inL_add ih (inL_mul hl (allS_getD c.2 m) (hp m))
    exact this _
  · rw [if_neg c]; exact inL_zero l
theorem dgI_lt (C : List E) : ∀ n, dgI C n < (n : Int)
  | 0 => show (-1 : Int) < 0 by decide
  | n + 1 => by
    have := dgI_lt C n
    rw [dgI]
    by_cases c : C.getD n 0 = 0
    · rw [if_pos c]; omega
    · rw [if_neg c]; omega
theorem dgI_low {C : List E} {m : Nat} : ∀ {n : Nat}, m ≤ n → ((dgI C n < (m : Int)) ↔ ∀ i, m ≤ i → i < n → C.getD i 0 = 0)
  | 0, h => ⟨fun _ i h1 h2 => by omega, fun _ => by have := dgI_lt C 0; omega⟩
  | n + 1, h => by
    rw [dgI]
    by_cases e : m = n + 1
    · subst e
      refine ⟨fun _ i h1 h2 => by omega, fun _ => ?_⟩
      by_cases c : C.getD n 0 = 0
      · rw [if_pos c]; have := dgI_lt C n; omega
      · rw [if_neg c]; omega
    · by_cases c : C.getD n 0 = 0
      · rw [if_pos c, dgI_low (show m ≤ n by omega)]
        constructor
        · intro g i h1 h2
          by_cases ei : i = n
          · rw [ei]; exact c
          · exact g i h1 (by omega)
        · exact fun g i h1 h2 => g i h1 (by omega)
      · rw [if_neg c]
        refine ⟨fun g => by omega, fun g => absurd (g n (by omega) (by omega)) c⟩
end Go.Proofs.YtbapldgapbmdkaaGreat.Sp
namespace Go.Proofs.YtbapldgapbmdkaaGreat.Sp
open Go.Proofs.YtbapldgapbmdkaaGreat.V.B Go.RowKit Go.Proofs.YtbapldgapbmdkaaGreat.B Go.Proofs.YtbapldgapbmdkaaGreat.V.B.Ar Go.Proofs.YtbapldgapbmdkaaGreat.V.B.Tw
set_option linter.unusedVariables false
set_option linter.unusedSimpArgs false
def plB (n : Nat) : List E := (List.range n).map bitE
theorem plB_length (n : Nat) : (plB n).length = n := by unfold plB; rw [List.length_map, List.length_range]
theorem plB_get {n i : Nat} (h : i < n) : bE (plB n) i = bitE i := range_get _ h
theorem val_bit {i : Nat} (h : i < 128) : val (bitE i) = 2 ^ i := val_of 7 _ (by rw [Q_seven]; exact Nat.pow_lt_pow_right (by decide) h)
theorem plPt (n : Nat) : ∀ m, m ≤ n → m ≤ 10 → ∀ j, j < 2 ^ m → val (pt (bE (plB n)) m j) = j
  | 0, _, _, j, hj => by
    have : j = 0 := by omega
    subst this; exact val_zero 7
  | m + 1, h, h10, j, hj => by
    rw [Nat.pow_succ] at hj
    by_cases c : j < 2 ^ m
    · rw [pt_more _ m j c]
      exact plPt n m (by omega) (by omega) j c
    · obtain ⟨k, rfl⟩ := Nat.le.dest (Nat.le_of_not_lt c)
      have hk : k < 2 ^ m := by omega
      rw [pt_add _ m k hk, val_add, plPt n m (by omega) (by omega) k hk, plB_get (show m < n by omega), val_bit (by omega)]
      have e := Nat.two_pow_add_eq_or_of_lt hk 1
      rw [Nat.mul_one] at e
      rw [Nat.xor_comm, e]
      apply Nat.eq_of_testBit_eq
      intro t
      rw [Nat.testBit_xor, Nat.testBit_or, Nat.testBit_two_pow]
      by_cases e : m = t
      · subst e; rw [Nat.testBit_lt_two_pow hk]; simp
      · simp [e]
theorem plNew (n : Nat) (h10 : n ≤ 10) : New (bE (plB n)) n := by
  intro i hin e
  have hm := (W_root (bE (plB n)) i _).1 e
  obtain ⟨j, hj, he⟩ : ∃ j, j < 2 ^ i ∧ pt (bE (plB n)) i j = bE (plB n) i := by
    obtain ⟨j, hj, he⟩ := List.getElem_of_mem hm
    rw [pts_length] at hj
    refine ⟨j, hj, ?_⟩
    rw [← pts_get _ i j hj, List.getD_eq_getElem?_getD, List.getElem?_eq_getElem (by rw [pts_length]; exact hj)]
    exact he
  have h1 := plPt n i (by omega) (by omega) j hj
  rw [he, plB_get hin, val_bit (by omega)] at h1
  omega
theorem plAll {l n : Nat} (hl : l ≤ 7) (h : n ≤ 2 ^ l) (h10 : n ≤ 10) : AllS (l : Int) (plB n) := by
  intro x hx
  obtain ⟨i, hi', rfl⟩ := List.mem_map.1 hx
  rw [List.mem_range] at hi'
  refine ofS_in hl ?_
  unfold InL
  rw [val_bit (by omega)]
  exact Nat.pow_lt_pow_right (by decide) (by omega)
def plE (L a : Int) : Int := if L < 0 ∨ L > 7 ∨ a < 0 then 1 else if a > 10 then 2 else if a > ((2 ^ L.toNat : Nat) : Int) then 7 else 0
theorem Plain_ev (L a : Int) : Ev (fun k => linpoly_Plain.f k L a) (if plE L a = 0 then some (spS L.toNat (plB a.toNat) (plB a.toNat).length) else none, plE L a) := by
  unfold linpoly_Plain.f
  by_cases c1 : LvS L
  · obtain ⟨v, hv, ev⟩ := wide_in c1
    obtain ⟨h0, h7⟩ := c1
    obtain ⟨l, rfl⟩ := Int.eq_ofNat_of_zero_le h0
    refine Ev.bnd ev (Ev.neg hv ?_)
    by_cases c2 : a < 0
    · have e : plE l a = 1 := if_pos (.inr (.inr c2))
      rw [e]; exact Ev.pos c2 (Ev.ret _)
    refine Ev.neg c2 ?_
    have n1 : ¬ ((l : Int) < 0 ∨ (l : Int) > 7 ∨ a < 0) := by omega
    by_cases c3 : a > 10
    · have e : plE l a = 2 := by unfold plE; rw [if_neg n1, if_pos c3]
      rw [e]; exact Ev.pos c3 (Ev.ret _)
    refine Ev.neg c3 (Ev.pos h0 ?_)
    rw [shl_i64 l (by omega)]
    by_cases c4 : a > ((2 ^ l : Nat) : Int)
    · have e : plE l a = 7 := by unfold plE; rw [if_neg n1, if_neg c3, Int.toNat_natCast, if_pos c4]
      rw [e]; exact Ev.pos c4 (Ev.ret _)
    · have e : plE l a = 0 := by unfold plE; rw [if_neg n1, if_neg c3, Int.toNat_natCast, if_neg c4]
      obtain ⟨n, rfl⟩ := Int.eq_ofNat_of_zero_le (show 0 ≤ a by omega)
      rw [e]
      refine Ev.neg c4 ?_
      have hz : newE (l : Int) (plB n) = 0 := (newE_zero _ _).2 ⟨h0, show Good l (plB n) from ⟨by omega, by rw [plB_length]; omega, plAll (by omega) (by omega) (by omega), by rw [plB_length]; exact plNew n (by omega)⟩⟩
      have hN := New_ev (l : Int) (plB n) (by rw [plB_length]; omega)
      rw [hz] at hN
      refine Ev.down (g := fun i k => linpoly_Plain.l9 k (l : Int) (n : Int) (i : Int) ((plB i).map toS)) (n := n) ?_ fun i hil hih => ?_
      · refine Ev.step (fun q => by rw [linpoly_Plain.l9]) ?_
        exact Ev.neg (Int.lt_irrefl _) (Ev.bnd hN (Ev.ret _))
      · have f0 : (i : Int) < (n : Int) := by omega
        have f1 : ∀ z : S47, ((plB i).map toS).length + [z].length ≤ 140737488355328 / 16 := fun z => by
          rw [List.length_map, plB_length, List.length_singleton]; omega
        have es : plB (i + 1) = plB i ++ [bitE i] := by unfold plB; rw [List.range_succ, List.map_append]; rfl
        rw [es, List.map_append] at hih
        refine Ev.step (fun q => by rw [linpoly_Plain.l9]) (Ev.pos f0 ?_)
        rw [w64_succ hil (by omega)]
        exact Ev.bnd (towerBit_ev i (by omega)) (Ev.pos (f1 _) hih)
  · have e : plE L a = 1 := if_pos (by unfold LvS at c1; omega)
    rw [e]
    exact Ev.bnd (wide_out c1) (Ev.pos rfl (Ev.ret _))
theorem plGood {l n : Nat} (h : plE l n = 0) : Good l (plB n) := by
  by_cases c : (l : Int) < 0 ∨ (l : Int) > 7 ∨ (n : Int) < 0
  · exfalso; unfold plE at h; rw [if_pos c] at h; exact absurd h (by decide)
  by_cases c3 : (n : Int) > 10
  · exfalso; unfold plE at h; rw [if_neg c, if_pos c3] at h; exact absurd h (by decide)
  by_cases c4 : (n : Int) > ((2 ^ l : Nat) : Int)
  · exfalso; unfold plE at h; rw [if_neg c, if_neg c3, Int.toNat_natCast, if_pos c4] at h; exact absurd h (by decide)
  · exact ⟨by omega, by rw [plB_length]; omega, plAll (by omega) (by omega) (by omega), by rw [plB_length]; exact plNew n (by omega)⟩
end Go.Proofs.YtbapldgapbmdkaaGreat.Sp
namespace Go.Proofs.YtbapldgapbmdkaaGreat.Sp
open Go.Proofs.YtbapldgapbmdkaaGreat.V.B Go.RowKit Go.Proofs.YtbapldgapbmdkaaGreat.B Go.Proofs.YtbapldgapbmdkaaGreat.V.B.Ar Go.Proofs.YtbapldgapbmdkaaGreat.V.B.Tw
set_option linter.unusedVariables false
set_option linter.unusedSimpArgs false
/-- A block, backwards. -/
theorem bck_block {l : Nat} (hl : l ≤ 7) {B : List E} {i m M block N : Nat} (hN : M = 2 * 2 ^ i * N) (hb : block < N) (hM : M ≤ 4096) (f : Nat → E) (hf : ∀ q, InL l (f q)) (t : Nat → E) (ht : ∀ q, InL l (t q)) (s : E) {R : List S47 × Int}
    (h : Ev (fun k => antt_Back.l10 k (some (spS l B B.length)) (i : Int) ((2 ^ i : Nat) : Int) (m : Int) (i : Int) (N : Int) ((block + 1 : Nat) : Int) (hi s) (lo s) ((rl M (stF (2 ^ i) (block + 1) 0 f (unfly t i f))).map toS)) R) :
    Ev (fun k => antt_Back.l14 k (some (spS l B B.length)) (i : Int) ((2 ^ i : Nat) : Int) (block : Int) (m : Int) (i : Int) (N : Int) (block : Int) ((2 ^ i : Nat) : Int) 0 (hi s) (lo s) ((rl M (stF (2 ^ i) block 0 f (unfly t i f))).map toS) (hi (t block)) (lo (t block))) R := by
  have hh := Nat.two_pow_pos i
  have hq := Nat.mul_le_mul_left (2 * 2 ^ i) hb
  rw [Nat.mul_succ, ← hN] at hq
  have hbs : block < M := by
    have : block ≤ 2 * 2 ^ i * block := Nat.le_mul_of_pos_left _ (by omega)
    omega
  refine Ev.down (g := fun j k => antt_Back.l14 k (some (spS l B B.length)) (i : Int) ((2 ^ i : Nat) : Int) (block : Int) (m : Int) (i : Int) (N : Int) (block : Int) ((2 ^ i : Nat) : Int) (j : Int) (hi s) (lo s) ((rl M (stF (2 ^ i) block j f (unfly t i f))).map toS) (hi (t block)) (lo (t block))) (n := 2 ^ i) ?_ fun j hj hjh => ?_
  · refine Ev.step (fun k => by rw [antt_Back.l14]) (Ev.neg (Int.lt_irrefl _) ?_)
    rw [st_next hh, w64_succ hbs (by omega)]
    exact h
  · have f0 : (j : Int) < ((2 ^ i : Nat) : Int) := by omega
    have q1 : 2 * 2 ^ i * block + j + 2 ^ i ≤ 100000 := by omega
    have q2 : 2 ^ i ≤ 1000000 := by omega
    have q3 : 2 ^ i ≤ 4611686018427387904 := by omega
    have hP : 2 * 2 ^ i * block + j + 2 ^ i < M := by omega
    have p1 := place_low (h := 2 ^ i) (B := block) (j := j) q1 q2
    have p2 := place_high (h := 2 ^ i) (B := block) (j := j) q1 q2
    have hs := st_set2 hj M f (unfly t i f) (B := block)
    have g1 := st_low hj f (unfly t i f) (B := block)
    have g2 := st_high hj f (unfly t i f) (B := block)
    have v1 := unfly_low t i f hj (B := block)
    have v2 := unfly_high t i f hj (B := block)
    have ws := w64_succ (show j < 2 ^ i from hj) q3
    refine Ev.step (fun k => by rw [antt_Back.l14]) ?_
    rw [p1, p2, ws]
    clear p1 p2 ws
    generalize hPe : 2 * 2 ^ i * block + j = p at *
    have i1 : p < ((rl M (stF (2 ^ i) block j f (unfly t i f))).map toS).length := by rw [rl_map]; omega
    have i2 : p + 2 ^ i < ((rl M (stF (2 ^ i) block j f (unfly t i f))).map toS).length := by rw [rl_map]; omega
    refine Ev.pos f0 (Ev.ixS i1 (Ev.ixS i2 ?_))
    rw [rdS, rdS, rl_get M _ 0 hP, rl_get M _ 0 (show p < M by omega), g1, g2]
    refine Ev.bnd (Add_ev _ _) ?_
    have iu : InL l (unfly t i f (p + 2 ^ i)) := by rw [v2]; exact inL_add (hf _) (hf _)
    rw [← v2, Int.toNat_natCast, map_set]
    have i4 : ∀ {q : Nat}, q < M → q < (((rl M (stF (2 ^ i) block j f (unfly t i f))).set (p + 2 ^ i) (unfly t i f (p + 2 ^ i))).map toS).length := fun h => by rw [List.length_map, List.length_set, rl_length]; exact h
    have hp : p < M := by omega
    refine Ev.ixS i2 (Ev.ixS (i4 hp) (Ev.bnd (Level_ev l B) (Ev.ixS (i4 hP) ?_)))
    rw [rdS, rdS, getD_set_self (by rw [rl_length]; omega), getD_set_ne (by omega), rl_get M _ 0 hp, g1]
    refine Ev.bnd (Mul_ev hl (ht block) iu) (Ev.bnd (Add_ev _ _) ?_)
    have e3 : f p + t block * unfly t i f (p + 2 ^ i) = unfly t i f p := by rw [v1, v2]
    rw [e3, Int.toNat_natCast, map_set, hs]
    exact Ev.ixS (i4 hp) hjh
theorem bck_inL {l : Nat} (hl : l ≤ 7) (t : Nat → Nat → E) (ht : ∀ i q, InL l (t i q)) (f : Nat → E) (hf : ∀ q, InL l (f q)) : ∀ i q, InL l (bck t i f q) := by
  intro i
  induction i with
  | zero => exact hf
  | succ i ih =>
    intro q
    rw [bck]
    unfold unfly
    by_cases c : q % (2 * 2 ^ i) < 2 ^ i
    · rw [if_pos c]; exact inL_add (ih _) (inL_mul hl (ht _ _) (inL_add (ih _) (ih _)))
    · rw [if_neg c]; exact inL_add (ih _) (ih _)
theorem fwd_inL {l : Nat} (hl : l ≤ 7) (t : Nat → Nat → E) (ht : ∀ i q, InL l (t i q)) : ∀ (i : Nat) (f : Nat → E), (∀ q, InL l (f q)) → ∀ q, InL l (fwd t i f q) := by
  intro i
  induction i with
  | zero => exact fun f hf => hf
  | succ i ih =>
    intro f hf
    rw [fwd]
    refine ih _ fun q => ?_
    unfold fly
    by_cases c : q % (2 * 2 ^ i) < 2 ^ i
    · rw [if_pos c]; exact inL_add (hf _) (inL_mul hl (ht _ _) (hf _))
    · rw [if_neg c]; exact inL_add (inL_add (hf _) (inL_mul hl (ht _ _) (hf _))) (hf _)
theorem bck_loop {l : Nat} {B : List E} (g : Good l B) {s : E} (hs : InL l s) {m : Nat} (hm : m ≤ B.length) (f : Nat → E) (hf : ∀ q, InL l (f q)) :
    Ev (fun k => antt_Back.l6 k (some (spS l B B.length)) (m : Int) 0 (hi s) (lo s) ((rl (2 ^ m) f).map toS)) ((rl (2 ^ m) (bck (twi (bE B) B.length s) m f)).map toS, 0) := by
  have hl := g.lv
  have hlen := g.len
  have hp := pow_len10 (show m ≤ 10 by omega)
  have ht := fun i block => inL_twi hl g.all hs i block
  refine Ev.down (g := fun i k => antt_Back.l6 k (some (spS l B B.length)) (m : Int) (i : Int) (hi s) (lo s) ((rl (2 ^ m) (bck (twi (bE B) B.length s) i f)).map toS)) (n := m) ?_ fun i him hih => ?_
  · refine Ev.step (fun k => by rw [antt_Back.l6]) ?_
    exact Ev.neg (Int.lt_irrefl _) (Ev.ret _)
  · have hh := Nat.two_pow_pos i
    have hN : 2 ^ m = 2 * 2 ^ i * 2 ^ (m - (i + 1)) := by
      rw [show 2 * 2 ^ i = 2 ^ (i + 1) by rw [Nat.pow_succ, Nat.mul_comm], ← Nat.pow_add, Nat.add_sub_cancel' him]
    have hi2 : 2 ^ i ≤ 2 ^ m := Nat.pow_le_pow_right (by decide) (by omega)
    have k1 : 2 ^ m ≤ 4096 := by omega
    have k2 : 2 ^ i ≤ 4096 := by omega
    have k3 : i ≤ 62 := by omega
    have f00 : (i : Int) < (m : Int) := by omega
    have e2 : ¬ wrap64 (2 * ((2 ^ i : Nat) : Int)) = 0 := by rw [w64_id (by omega) (by omega)]; omega
    have hfi := bck_inL hl (twi (bE B) B.length s) ht f hf i
    rw [bck] at hih
    generalize hF : bck (twi (bE B) B.length s) i f = F at hih hfi
    have es := shl_i64 i k3
    have et := tdiv_pow hN hh k1 k2
    refine Ev.step (fun k => by rw [antt_Back.l6]) (Ev.pos f00 (Ev.pos (Int.natCast_nonneg _) ?_))
    rw [es, rl_map, et]
    refine Ev.neg e2 ?_
    clear es et e2
    have h0 : (rl (2 ^ m) F) = rl (2 ^ m) (stF (2 ^ i) 0 0 F (unfly (twi (bE B) B.length s i) i F)) := by rw [st_start]
    rw [h0]
    refine Ev.down (g := fun block k => antt_Back.l10 k (some (spS l B B.length)) (i : Int) ((2 ^ i : Nat) : Int) (m : Int) (i : Int) ((2 ^ (m - (i + 1)) : Nat) : Int) (block : Int) (hi s) (lo s) ((rl (2 ^ m) (stF (2 ^ i) block 0 F (unfly (twi (bE B) B.length s i) i F))).map toS)) (n := 2 ^ (m - (i + 1))) ?_ fun block hb hbh => ?_
    · refine Ev.step (fun k => by rw [antt_Back.l10]) (Ev.neg (Int.lt_irrefl _) ?_)
      rw [w64_succ him (by omega), rl_congr (2 ^ m) fun q hq => st_end (by rw [← hN]; exact hq) F (unfly (twi (bE B) B.length s i) i F)]
      exact hih
    · have f0 : (block : Int) < ((2 ^ (m - (i + 1)) : Nat) : Int) := by omega
      have hq := Nat.mul_le_mul_left (2 * 2 ^ i) hb
      rw [Nat.mul_succ, ← hN] at hq
      have hbt : block * 2 ^ (i + 1) < 2 ^ B.length := by
        have hmb : 2 ^ m ≤ 2 ^ B.length := Nat.pow_le_pow_right (by decide) hm
        rw [Nat.pow_succ, Nat.mul_comm (2 ^ i) 2, Nat.mul_comm]
        omega
      exact Ev.step (fun k => by rw [antt_Back.l10]) (Ev.pos f0 (Ev.bnd (twist_ev g hs hbt (by omega)) (bck_block hl hN hb (by omega) F hfi _ (ht i) s hbh)))
def bkL (B : List E) (s : E) (m : Nat) (C : List E) : List E := rl (2 ^ m) (bck (twi (bE B) B.length s) m fun q => C.getD q 0)
theorem Back_fit {l : Nat} {B : List E} (g : Good l B) {C : List E} {m : Nat} (h : Sz B C m) (hC : AllS (l : Int) C) {s : E} (hs : InL l s) : Ev (fun k => antt_Back.f k (some (spS l B B.length)) (C.map toS) (toS s)) ((bkL B s m C).map toS, 0) := by
  have hlen := g.len
  have hm := h.1
  have hc := h.2
  have hp := pow_len10 (show m ≤ 10 by omega)
  have hl := bck_loop g hs h.1 (fun q => C.getD q 0) fun q => allS_getD hC q
  have e : rl (2 ^ m) (fun q => C.getD q 0) = C := by rw [← hc]; exact (rl_of C 0).symm
  rw [e] at hl
  unfold antt_Back.f
  refine Ev.bnd (ask_fit g h hC hs) (Ev.pos rfl ?_)
  have hcl : Ev (fun k => slices_Clone44.f k (C.map toS)) (C.map toS) := clone_ev C (by omega)
  exact Ev.bnd hcl hl
theorem Back_size {l : Nat} {B : List E} (g : Good l B) {C : List E} (h : ∀ m, ¬ Sz B C m) (s : E) : Ev (fun k => antt_Back.f k (some (spS l B B.length)) (C.map toS) (toS s)) ([], 6) := by
  unfold antt_Back.f
  exact Ev.bnd (ask_size g h s) (Ev.neg (by decide) (Ev.ret _))
theorem Back_field {l : Nat} {B : List E} (g : Good l B) {C : List E} {m : Nat} (h : Sz B C m) {s : E} (hn : ¬ (AllS (l : Int) C ∧ InL l s)) : Ev (fun k => antt_Back.f k (some (spS l B B.length)) (C.map toS) (toS s)) ([], 5) := by
  unfold antt_Back.f
  exact Ev.bnd (ask_field g h hn) (Ev.neg (by decide) (Ev.ret _))
theorem rl_allS {l : Nat} (hl : l ≤ 7) {M : Nat} {f : Nat → E} (hf : ∀ q, InL l (f q)) : AllS (l : Int) (rl M f) := fun x hx => by
  obtain ⟨q, _, rfl⟩ := List.mem_map.1 hx
  exact ofS_in hl (hf q)
theorem fwL_all {l : Nat} {B : List E} (g : Good l B) {s : E} (hs : InL l s) (m : Nat) {C : List E} (hC : AllS (l : Int) C) : AllS (l : Int) (fwL B s m C) :=
  rl_allS g.lv (fwd_inL g.lv _ (fun i q => inL_twi g.lv g.all hs i q) m _ fun q => allS_getD hC q)
theorem bkL_all {l : Nat} {B : List E} (g : Good l B) {s : E} (hs : InL l s) (m : Nat) {C : List E} (hC : AllS (l : Int) C) : AllS (l : Int) (bkL B s m C) :=
  rl_allS g.lv (bck_inL g.lv _ (fun i q => inL_twi g.lv g.all hs i q) _ (fun q => allS_getD hC q) m)
theorem bkL_length (B : List E) (s : E) (m : Nat) (C : List E) : (bkL B s m C).length = 2 ^ m := rl_length _ _
theorem fw_bk (B : List E) (s : E) {m : Nat} {C : List E} (h : C.length = 2 ^ m) : fwL B s m (bkL B s m C) = C := by
  have e : ∀ q, q < 2 ^ m → fwd (twi (bE B) B.length s) m (fun q => (bkL B s m C).getD q 0) q = C.getD q 0 := fun q hq => by
    unfold bkL
    rw [fwd_congr m (2 ^ m) (Nat.mod_self _) (fun p hp => rl_get (2 ^ m) (bck (twi (bE B) B.length s) m fun q => C.getD q 0) 0 hp) q hq, fwd_bck]
  unfold fwL
  rw [rl_congr _ e, ← h]
  exact (rl_of C 0).symm
theorem bk_fw (B : List E) (s : E) {m : Nat} {C : List E} (h : C.length = 2 ^ m) : bkL B s m (fwL B s m C) = C := by
  have e : ∀ q, q < 2 ^ m → bck (twi (bE B) B.length s) m (fun q => (fwL B s m C).getD q 0) q = C.getD q 0 := fun q hq => by
    unfold fwL
    rw [bck_congr m (2 ^ m) (Nat.mod_self _) (fun p hp => rl_get (2 ^ m) (fwd (twi (bE B) B.length s) m fun q => C.getD q 0) 0 hp) q hq, bck_fwd]
  unfold bkL
  rw [rl_congr _ e, ← h]
  exact (rl_of C 0).symm
end Go.Proofs.YtbapldgapbmdkaaGreat.Sp
namespace Go.Proofs.YtbapldgapbmdkaaGreat.Sp
open Go.Proofs.YtbapldgapbmdkaaGreat.V.B Go.RowKit Go.Proofs.YtbapldgapbmdkaaGreat.B Go.Proofs.YtbapldgapbmdkaaGreat.V.B.Ar Go.Proofs.YtbapldgapbmdkaaGreat.V.B.Tw
set_option linter.unusedVariables false
set_option linter.unusedSimpArgs false
def cdS (l K R : Nat) : S53 := ⟨some (spS l (plB (K + R)) (plB (K + R)).length), (K : Int)⟩
def cE (L a r : Int) : Int := if L < 0 ∨ L > 7 ∨ a < 0 ∨ r < 0 then 1 else if a > 10 ∨ r > 10 ∨ a + r > 10 ∨ a + r > ((2 ^ L.toNat : Nat) : Int) then 2 else 0
theorem cE_zero {L a r : Int} (h : cE L a r = 0) : ∃ l K R : Nat, L = (l : Int) ∧ a = (K : Int) ∧ r = (R : Int) ∧ l ≤ 7 ∧ K + R ≤ 10 ∧ K + R ≤ 2 ^ l := by
  unfold cE at h
  by_cases c : L < 0 ∨ L > 7 ∨ a < 0 ∨ r < 0
  · rw [if_pos c] at h; exact absurd h (by decide)
  rw [if_neg c] at h
  by_cases d : a > 10 ∨ r > 10 ∨ a + r > 10 ∨ a + r > ((2 ^ L.toNat : Nat) : Int)
  · rw [if_pos d] at h; exact absurd h (by decide)
  obtain ⟨l, rfl⟩ := Int.eq_ofNat_of_zero_le (show 0 ≤ L by omega)
  obtain ⟨K, rfl⟩ := Int.eq_ofNat_of_zero_le (show 0 ≤ a by omega)
  obtain ⟨R, rfl⟩ := Int.eq_ofNat_of_zero_le (show 0 ≤ r by omega)
  rw [Int.toNat_natCast] at d
  exact ⟨l, K, R, rfl, rfl, rfl, by omega, by omega, by omega⟩
theorem cE_of {l K R : Nat} (h7 : l ≤ 7) (h10 : K + R ≤ 10) (hp : K + R ≤ 2 ^ l) : cE (l : Int) (K : Int) (R : Int) = 0 := by
  unfold cE
  rw [if_neg (by omega), if_neg (by rw [Int.toNat_natCast]; omega)]
theorem cE_val (L a r : Int) : cE L a r = 0 ∨ cE L a r = 1 ∨ cE L a r = 2 := by
  unfold cE
  by_cases c : L < 0 ∨ L > 7 ∨ a < 0 ∨ r < 0
  · rw [if_pos c]; exact .inr (.inl rfl)
  rw [if_neg c]
  by_cases d : a > 10 ∨ r > 10 ∨ a + r > 10 ∨ a + r > ((2 ^ L.toNat : Nat) : Int)
  · rw [if_pos d]; exact .inr (.inr rfl)
  · rw [if_neg d]; exact .inl rfl
theorem cNew_ev (L a r : Int) : Ev (fun k => code_New.f k L a r) (if cE L a r = 0 then some (cdS L.toNat a.toNat r.toNat) else none, cE L a r) := by
  unfold code_New.f
  by_cases c1 : LvS L
  · obtain ⟨v, hv, ev⟩ := wide_in c1
    obtain ⟨h0, h7⟩ := c1
    obtain ⟨l, rfl⟩ := Int.eq_ofNat_of_zero_le h0
    refine Ev.bnd ev (Ev.neg hv ?_)
    by_cases c2 : a < 0
    · have e : cE l a r = 1 := if_pos (by omega)
      rw [e]; exact Ev.pos c2 (Ev.ret _)
    refine Ev.neg c2 ?_
    by_cases c3 : r < 0
    · have e : cE l a r = 1 := if_pos (by omega)
      rw [e]; exact Ev.pos c3 (Ev.ret _)
    refine Ev.neg c3 ?_
    have n1 : ¬ ((l : Int) < 0 ∨ (l : Int) > 7 ∨ a < 0 ∨ r < 0) := by omega
    by_cases c4 : a > 10
    · have e : cE l a r = 2 := by unfold cE; rw [if_neg n1, if_pos (.inl c4)]
      rw [e]; exact Ev.pos c4 (Ev.ret _)
    refine Ev.neg c4 ?_
    have ew : wrap64 (10 - a) = 10 - a := w64_id (by omega) (by omega)
    rw [ew]
    by_cases c5 : r > 10 - a
    · have e : cE l a r = 2 := by unfold cE; rw [if_neg n1, if_pos (by omega)]
      rw [e]; exact Ev.pos c5 (Ev.ret _)
    refine Ev.neg c5 (Ev.pos h0 ?_)
    have ew : wrap64 (a + r) = a + r := w64_id (by omega) (by omega)
    rw [ew, shl_i64 l (by omega)]
    by_cases c6 : a + r > ((2 ^ l : Nat) : Int)
    · have e : cE l a r = 2 := by unfold cE; rw [if_neg n1, if_pos (by rw [Int.toNat_natCast]; omega)]
      rw [e]; exact Ev.pos c6 (Ev.ret _)
    obtain ⟨K, rfl⟩ := Int.eq_ofNat_of_zero_le (show 0 ≤ a by omega)
    obtain ⟨R, rfl⟩ := Int.eq_ofNat_of_zero_le (show 0 ≤ r by omega)
    have e : cE l K R = 0 := cE_of (by omega) (by omega) (by omega)
    have hs : (K : Int) + (R : Int) = ((K + R : Nat) : Int) := by omega
    have ep : plE (l : Int) ((K + R : Nat) : Int) = 0 := by
      unfold plE
      rw [if_neg (by omega), if_neg (by omega), Int.toNat_natCast, if_neg (by omega)]
    have hP := Plain_ev (l : Int) ((K + R : Nat) : Int)
    rw [ep, if_pos rfl, Int.toNat_natCast, Int.toNat_natCast] at hP
    rw [e, hs]
    exact Ev.neg (by omega) (Ev.bnd hP (Ev.pos rfl (Ev.ret _)))
  · have e : cE L a r = 1 := if_pos (by unfold LvS at c1; omega)
    rw [e]
    exact Ev.bnd (wide_out c1) (Ev.pos rfl (Ev.ret _))
theorem Check8_j3 : Ev (fun k => steepleref08_Check.j3 k) 1 := Ev.step (fun k => by rw [steepleref08_Check.j3]) (Ev.ret _)
theorem Check8_j5 : Ev (fun k => steepleref08_Check.j5 k) 2 := Ev.step (fun k => by rw [steepleref08_Check.j5]) (Ev.ret _)
theorem Check8_ev (L a r : Int) : Ev (fun k => steepleref08_Check.f k L a r) (cE L a r) := by
  unfold steepleref08_Check.f
  by_cases n1 : L < 0 ∨ L > 7 ∨ a < 0 ∨ r < 0
  · have e : cE L a r = 1 := if_pos n1
    rw [e]
    by_cases c1 : L < 0
    · exact Ev.pos c1 Check8_j3
    by_cases c2 : L > 7
    · exact Ev.neg c1 (Ev.pos c2 Check8_j3)
    by_cases c3 : a < 0
    · exact Ev.neg c1 (Ev.neg c2 (Ev.pos c3 Check8_j3))
    · exact Ev.neg c1 (Ev.neg c2 (Ev.neg c3 (Ev.pos (by omega) Check8_j3)))
  refine Ev.neg (by omega) (Ev.neg (by omega) (Ev.neg (by omega) (Ev.neg (by omega) ?_)))
  by_cases c4 : a > 10
  · have e : cE L a r = 2 := by unfold cE; rw [if_neg n1, if_pos (.inl c4)]
    rw [e]; exact Ev.pos c4 Check8_j5
  by_cases c5 : r > 10
  · have e : cE L a r = 2 := by unfold cE; rw [if_neg n1, if_pos (.inr (.inl c5))]
    rw [e]; exact Ev.neg c4 (Ev.pos c5 Check8_j5)
  have ew : wrap64 (a + r) = a + r := w64_id (by omega) (by omega)
  rw [ew]
  by_cases c6 : a + r > 10
  · have e : cE L a r = 2 := by unfold cE; rw [if_neg n1, if_pos (.inr (.inr (.inl c6)))]
    rw [e]; exact Ev.neg c4 (Ev.neg c5 (Ev.pos c6 Check8_j5))
  obtain ⟨l, rfl⟩ := Int.eq_ofNat_of_zero_le (show 0 ≤ L by omega)
  have f1 : l < ([1, 2, 4, 8, 16, 32, 64, 128] : List Int).length := by show l < 8; omega
  refine Ev.neg c4 (Ev.neg c5 (Ev.neg c6 (Ev.ixS f1 ?_)))
  rw [rdL l (by omega)]
  by_cases c7 : a + r > ((2 ^ l : Nat) : Int)
  · have e : cE l a r = 2 := by unfold cE; rw [if_neg n1, if_pos (by rw [Int.toNat_natCast]; omega)]
    rw [e]; exact Ev.pos c7 Check8_j5
  · have e : cE l a r = 0 := by unfold cE; rw [if_neg n1, if_neg (by rw [Int.toNat_natCast]; omega)]
    rw [e]; exact Ev.neg c7 (Ev.ret _)
theorem Two8_ev (K : Nat) (h : K ≤ 40) : Ev (fun k => steepleref08_Two.f k (K : Int)) ((2 ^ K : Nat) : Int) := by
  unfold steepleref08_Two.f
  refine Ev.down (g := fun i k => steepleref08_Two.l3 k (K : Int) ((2 ^ i : Nat) : Int) (i : Int)) (n := K) ?_ fun i hil hih => ?_
  · exact Ev.step (fun q => by rw [steepleref08_Two.l3]) (Ev.neg (Int.lt_irrefl _) (Ev.ret _))
  · have hp : 2 ^ i ≤ 2 ^ 40 := Nat.pow_le_pow_right (by decide) (by omega)
    have e2 : wrap64 (2 * ((2 ^ i : Nat) : Int)) = ((2 ^ (i + 1) : Nat) : Int) := by
      rw [Nat.pow_succ]
      generalize 2 ^ i = z at hp
      rw [w64_id (by omega) (by omega)]; omega
    have f0 : (i : Int) < (K : Int) := by omega
    refine Ev.step (fun q => by rw [steepleref08_Two.l3]) (Ev.pos f0 ?_)
    rw [e2, w64_succ hil (by omega)]
    exact hih
/-- A code that there is. -/
structure Cd (l K R : Nat) : Prop where
  l7 : l ≤ 7
  ten : K + R ≤ 10
  fit : K + R ≤ 2 ^ l
theorem Cd.good {l K R : Nat} (h : Cd l K R) : Good l (plB (K + R)) := ⟨h.l7, by rw [plB_length]; exact h.ten, plAll h.l7 h.fit h.ten, by rw [plB_length]; exact plNew _ h.ten⟩
theorem Cd.pow {l K R : Nat} (h : Cd l K R) : 2 ^ K ≤ 2 ^ (K + R) ∧ 2 ^ (K + R) ≤ 1024 := ⟨Nat.pow_le_pow_right (by decide) (by omega), pow_len10 h.ten⟩
theorem Shape_ev (L a r : Int) : (∃ l K R : Nat, L = (l : Int) ∧ a = (K : Int) ∧ r = (R : Int) ∧ Cd l K R ∧ K + R ≤ 5 ∧ Ev (fun k => steeplelaw08_Shape_Made.f k ⟨L, a, r⟩) (some (cdS l K R))) ∨ Ev (fun k => steeplelaw08_Shape_Made.f k ⟨L, a, r⟩) none := by
  unfold steeplelaw08_Shape_Made.f
  dsimp only
  by_cases c : cE L a r = 0
  · obtain ⟨l, K, R, rfl, rfl, rfl, h7, h10, hp⟩ := cE_zero c
    have ew : wrap64 ((K : Int) + (R : Int)) = ((K + R : Nat) : Int) := w64_add (by omega) (by omega)
    rw [ew]
    by_cases d : ((K + R : Nat) : Int) > 5
    · exact .inr (Ev.bnd (Check8_ev _ _ _) (Ev.pos c (Ev.pos d (Ev.ret _))))
    · have hN := cNew_ev (l : Int) (K : Int) (R : Int)
      rw [if_pos c, Int.toNat_natCast, Int.toNat_natCast, Int.toNat_natCast] at hN
      exact .inl ⟨l, K, R, rfl, rfl, rfl, ⟨h7, h10, hp⟩, by omega, Ev.bnd (Check8_ev _ _ _) (Ev.pos c (Ev.neg d (Ev.bnd hN (Ev.ret _))))⟩
  · exact .inr (Ev.bnd (Check8_ev _ _ _) (Ev.neg c (Ev.ret _)))
theorem Long_ev {l K R : Nat} (h : Cd l K R) : Ev (fun k => code_Code_Long.f k (some (cdS l K R))) ((2 ^ (K + R) : Nat) : Int) := by
  have h10 := h.ten
  have hd := Dim_ev l (plB (K + R))
  have hs := shl_i64 (K + R) (show K + R ≤ 62 by omega)
  unfold code_Code_Long.f
  refine Ev.bnd hd ?_
  rw [plB_length, hs]
  exact Ev.pos (Int.natCast_nonneg _) (Ev.ret _)
theorem cLevel_ev (l K R : Nat) : Ev (fun k => code_Code_Level.f k (some (cdS l K R))) (l : Int) := ⟨0, fun k _ => rfl⟩
theorem Size_ev {l K R : Nat} (h : Cd l K R) : Ev (fun k => code_Code_Size.f k (some (cdS l K R))) ((2 ^ K : Nat) : Int) := by
  have h10 := h.ten
  have hs := shl_i64 K (show K ≤ 62 by omega)
  unfold code_Code_Size.f
  show Ev (fun k => if (0 : Int) ≤ (K : Int) then some (shl .i64 1 (K : Int)) else none) _
  rw [hs]
  exact Ev.pos (Int.natCast_nonneg _) (Ev.ret _)
def askE (l : Nat) (C : List E) (m : Int) : Int := if (C.length : Int) = m then if AllS (l : Int) C then 0 else 5 else 6
theorem cAsk_ev (l K R : Nat) (C : List E) (hC : C.length ≤ 1000000) (m : Int) : Ev (fun k => code_Code_ask.f k (some (cdS l K R)) (C.map toS) m) (askE l C m) := by
  have j9 : ∀ x, Ev (fun k => code_Code_ask.j9 k x) x := fun x => Ev.step (fun k => by rw [code_Code_ask.j9]) (Ev.ret _)
  have hp : ∀ x, Ev (fun k => code_Code_ask_1.f k (toS x) (some (some (cdS l K R)))) (decide (¬ OfS (l : Int) x)) := fun x => by
    unfold code_Code_ask_1.f
    exact Ev.bnd (cLevel_ev l K R) (Ev.bnd (of_ev _ x) (Ev.ret' (by rw [decide_not])))
  have ha : Ev (fun k => slices_ContainsFunc39_c40.f k (C.map toS) (some (cdS l K R))) (!decide (AllS (l : Int) C)) := by
    obtain ⟨r, h1, h2⟩ := index_gen (P := fun x => OfS (l : Int) x) (l := fun k xs a n i => slices_IndexFunc64_c40.l2 k xs a n i) (p := code_Code_ask_1.f) (fun k xs n i => by rw [slices_IndexFunc64_c40.l2]) hp C (by omega) C.length 0 (by omega)
    unfold slices_ContainsFunc39_c40.f slices_IndexFunc64_c40.f
    rw [List.length_map]
    refine Ev.bnd h1 (Ev.ret' ?_)
    have h2 : r ≥ 0 ↔ ¬ AllS (l : Int) C := h2
    by_cases c : AllS (l : Int) C
    · rw [decide_eq_true c, decide_eq_false (fun g => (h2.1 g) c)]; rfl
    · rw [decide_eq_false c, decide_eq_true (h2.2 c)]; rfl
  unfold code_Code_ask.f askE
  rw [List.length_map]
  by_cases c : (C.length : Int) = m
  · rw [if_pos c]
    by_cases d : AllS (l : Int) C
    · rw [decide_eq_true d] at ha
      rw [if_pos d]
      refine Ev.pos c (Ev.both (fun _ => Ev.bnd ha (Ev.neg (by decide) (j9 _))) fun _ => Ev.bnd ha (Ev.neg (by decide) (j9 _)))
    · rw [decide_eq_false d] at ha
      rw [if_neg d]
      refine Ev.pos c (Ev.both (fun _ => Ev.bnd ha (Ev.pos rfl (j9 _))) fun _ => Ev.bnd ha (Ev.pos rfl (j9 _)))
  · rw [if_neg c]
    exact Ev.neg c (j9 _)
/-- A message with noughts behind it, and its word. -/
def padL (C : List E) (N : Nat) : List E := C ++ List.replicate (N - C.length) 0
theorem padL_length {C : List E} {N : Nat} (h : C.length ≤ N) : (padL C N).length = N := by unfold padL; rw [List.length_append, List.length_replicate]; omega
theorem padL_get {C : List E} {N r : Nat} (h : r < C.length) : (padL C N).getD r 0 = C.getD r 0 := by
  unfold padL
  rw [List.getD_eq_getElem?_getD, List.getD_eq_getElem?_getD, List.getElem?_append_left h]
theorem padL_zero {C : List E} {N r : Nat} (h : C.length ≤ r) : (padL C N).getD r 0 = 0 := by
  unfold padL
  rw [List.getD_eq_getElem?_getD, List.getElem?_append_right h, List.getElem?_replicate]
  by_cases c : r - C.length < N - C.length
  · rw [if_pos c]; rfl
  · rw [if_neg c]; rfl
theorem padL_all {l : Nat} {C : List E} (hC : AllS (l : Int) C) (hl : l ≤ 7) (N : Nat) : AllS (l : Int) (padL C N) := fun x hx => by
  rcases List.mem_append.1 hx with h | h
  · exact hC x h
  · have := List.eq_of_mem_replicate h
    subst this
    exact ofS_in hl (inL_zero l)
def wdL (K R : Nat) (C : List E) : List E := fwL (plB (K + R)) 0 (K + R) (padL C (2 ^ (K + R)))
theorem wdL_length (K R : Nat) (C : List E) : (wdL K R C).length = 2 ^ (K + R) := fwL_length _ _ _ _
theorem pad_sz {l K R : Nat} (h : Cd l K R) {C : List E} (hC : C.length = 2 ^ K) : Sz (plB (K + R)) (padL C (2 ^ (K + R))) (K + R) :=
  ⟨by rw [plB_length]; exact Nat.le_refl _, padL_length (by rw [hC]; exact h.pow.1)⟩
theorem wdL_get {l K R : Nat} (h : Cd l K R) {C : List E} (hC : C.length = 2 ^ K) {j : Nat} (hj : j < 2 ^ (K + R)) : (wdL K R C).getD j 0 = smT (exF (plB (K + R)) C (pt (bE (plB (K + R))) (K + R) j)) C.length := by
  have hp := h.pow
  unfold wdL
  rw [fwL_get h.good (pad_sz h hC) 0 hj, zero_add, padL_length (by omega)]
  have e : smT (exF (plB (K + R)) (padL C (2 ^ (K + R))) (pt (bE (plB (K + R))) (K + R) j)) (2 ^ (K + R)) = smT (exF (plB (K + R)) (padL C (2 ^ (K + R))) (pt (bE (plB (K + R))) (K + R) j)) C.length :=
    smT_more (by omega) fun i h1 _ => by unfold exF; rw [padL_zero h1, zero_mul]
  rw [e]
  exact smT_congr _ fun r hr => by unfold exF; rw [padL_get hr]
theorem copy_pad (C : List E) (N : Nat) (h : C.length ≤ N) : (C.map toS).take (List.replicate N z47).length ++ (List.replicate N z47).drop (C.map toS).length = (padL C N).map toS := by
  unfold padL
  rw [List.length_replicate, List.take_of_length_le (by rw [List.length_map]; exact h), List.drop_replicate, List.length_map, List.map_append, List.map_replicate, toS_zero]
theorem zeroS : (⟨0, 0⟩ : S47) = toS 0 := toS_out
theorem Encode_fit {l K R : Nat} (h : Cd l K R) {C : List E} (hC : C.length = 2 ^ K) (aC : AllS (l : Int) C) : Ev (fun k => code_Code_Encode.f k (some (cdS l K R)) (C.map toS)) ((wdL K R C).map toS, 0) := by
  have hp := h.pow
  have ha := cAsk_ev l K R C (by omega) ((2 ^ K : Nat) : Int)
  have e : askE l C ((2 ^ K : Nat) : Int) = 0 := by unfold askE; rw [hC, if_pos rfl, if_pos aC]
  rw [e] at ha
  have hf := Forward_fit h.good (pad_sz h hC) (padL_all aC h.l7 _) (s := 0) (inL_zero l)
  have f1 : ((2 ^ (K + R) : Nat) : Int) ≤ 140737488355328 / ((16 : Nat) : Int) := by omega
  have hz := copy_pad C (2 ^ (K + R)) (by omega)
  unfold code_Code_Encode.f
  refine Ev.bnd (Size_ev h) (Ev.bnd ha (Ev.pos rfl (Ev.bnd (Long_ev h) (Ev.pos (Int.natCast_nonneg _) (Ev.pos f1 ?_)))))
  rw [Int.toNat_natCast, hz]
  show Ev (fun k => (antt_Forward.f k (some (spS l (plB (K + R)) (plB (K + R)).length)) ((padL C (2 ^ (K + R))).map toS) (⟨0, 0⟩ : S47)).bind fun r4 => some (r4.1, r4.2)) _
  rw [zeroS]
  exact Ev.bnd hf (Ev.ret _)
theorem Encode_no {l K R : Nat} (h : Cd l K R) {C : List E} (hC : C.length ≤ 1000000) (hn : askE l C ((2 ^ K : Nat) : Int) ≠ 0) : Ev (fun k => code_Code_Encode.f k (some (cdS l K R)) (C.map toS)) ([], askE l C ((2 ^ K : Nat) : Int)) := by
  unfold code_Code_Encode.f
  exact Ev.bnd (Size_ev h) (Ev.bnd (cAsk_ev l K R C hC _) (Ev.neg hn (Ev.ret _)))
theorem askE_zero {l : Nat} {C : List E} {m : Nat} (h : askE l C (m : Int) = 0) : C.length = m ∧ AllS (l : Int) C := by
  unfold askE at h
  by_cases c : (C.length : Int) = (m : Int)
  · rw [if_pos c] at h
    by_cases d : AllS (l : Int) C
    · exact ⟨by omega, d⟩
    · rw [if_neg d] at h; exact absurd h (by decide)
  · rw [if_neg c] at h; exact absurd h (by decide)
theorem wdL_all {l K R : Nat} (h : Cd l K R) {C : List E} (aC : AllS (l : Int) C) : AllS (l : Int) (wdL K R C) := fwL_all h.good (inL_zero l) _ (padL_all aC h.l7 _)
/-- Back: a message, if what lies behind it is noughts. -/
theorem Decode_fit {l K R : Nat} (h : Cd l K R) {V : List E} (hV : V.length = 2 ^ (K + R)) (aV : AllS (l : Int) V) : Ev (fun k => code_Code_Decode.f k (some (cdS l K R)) (V.map toS))
    (if dgI (bkL (plB (K + R)) 0 (K + R) V) (2 ^ (K + R)) ≥ ((2 ^ K : Nat) : Int) then ([], 7) else (((bkL (plB (K + R)) 0 (K + R) V).take (2 ^ K)).map toS, 0)) := by
  have hp := h.pow
  have ha := cAsk_ev l K R V (by omega) ((2 ^ (K + R) : Nat) : Int)
  have e : askE l V ((2 ^ (K + R) : Nat) : Int) = 0 := by unfold askE; rw [hV, if_pos rfl, if_pos aV]
  rw [e] at ha
  have hb := Back_fit h.good (C := V) (m := K + R) ⟨by rw [plB_length]; exact Nat.le_refl _, hV⟩ aV (s := 0) (inL_zero l)
  have hl := bkL_length (plB (K + R)) 0 (K + R) V
  have hd := nDegree_ev (bkL (plB (K + R)) 0 (K + R) V) (by omega)
  rw [hl] at hd
  unfold code_Code_Decode.f
  refine Ev.bnd (Long_ev h) (Ev.bnd ha (Ev.pos rfl ?_))
  show Ev (fun k => (antt_Back.f k (some (spS l (plB (K + R)) (plB (K + R)).length)) (V.map toS) (⟨0, 0⟩ : S47)).bind fun r3 => _) _
  rw [zeroS]
  refine Ev.bnd hb (Ev.pos rfl (Ev.bnd hd (Ev.bnd (Size_ev h) ?_)))
  by_cases c : dgI (bkL (plB (K + R)) 0 (K + R) V) (2 ^ (K + R)) ≥ ((2 ^ K : Nat) : Int)
  · rw [if_pos c]
    exact Ev.pos c (Ev.ret _)
  · rw [if_neg c]
    have f1 : ((2 ^ K : Nat) : Int) ≤ (((bkL (plB (K + R)) 0 (K + R) V).map toS).length : Int) := by rw [List.length_map, hl]; omega
    refine Ev.neg c (Ev.bnd (Size_ev h) (Ev.pos (Int.natCast_nonneg _) (Ev.pos f1 (Ev.ret' ?_))))
    rw [Int.toNat_natCast, List.map_take]
theorem Decode_no {l K R : Nat} (h : Cd l K R) {V : List E} (hV : V.length ≤ 1000000) (hn : askE l V ((2 ^ (K + R) : Nat) : Int) ≠ 0) : Ev (fun k => code_Code_Decode.f k (some (cdS l K R)) (V.map toS)) ([], askE l V ((2 ^ (K + R) : Nat) : Int)) := by
  unfold code_Code_Decode.f
  exact Ev.bnd (Long_ev h) (Ev.bnd (cAsk_ev l K R V hV _) (Ev.neg hn (Ev.ret _)))
/-- What is encoded is decoded. -/
theorem bk_wd {l K R : Nat} (h : Cd l K R) {C : List E} (hC : C.length = 2 ^ K) : bkL (plB (K + R)) 0 (K + R) (wdL K R C) = padL C (2 ^ (K + R)) := bk_fw _ _ (padL_length (by rw [hC]; exact h.pow.1))
theorem pad_deg {C : List E} {N : Nat} (h : C.length ≤ N) : ¬ dgI (padL C N) N ≥ (C.length : Int) := by
  have := (dgI_low (C := padL C N) h).2 fun i h1 _ => padL_zero h1
  omega
theorem pad_take {C : List E} (N : Nat) : (padL C N).take C.length = C := by unfold padL; rw [List.take_left]
theorem Decode_wd {l K R : Nat} (h : Cd l K R) {C : List E} (hC : C.length = 2 ^ K) (aC : AllS (l : Int) C) : Ev (fun k => code_Code_Decode.f k (some (cdS l K R)) ((wdL K R C).map toS)) (C.map toS, 0) := by
  have hd := Decode_fit h (wdL_length K R C) (wdL_all h aC)
  rw [bk_wd h hC, ← hC, if_neg (pad_deg (by rw [hC]; exact h.pow.1)), pad_take] at hd
  exact hd
theorem awake8_ev : Ev (fun k => steeplelaw08_awake.f k) true := Ev.at 400 fun k => by kernel_rfl
end Go.Proofs.YtbapldgapbmdkaaGreat.Sp
namespace Go.Proofs.YtbapldgapbmdkaaGreat.Sp
open Go.Proofs.YtbapldgapbmdkaaGreat.V.B Go.RowKit Go.Proofs.YtbapldgapbmdkaaGreat.B Go.Proofs.YtbapldgapbmdkaaGreat.V.B.Ar Go.Proofs.YtbapldgapbmdkaaGreat.V.B.Tw
set_option linter.unusedVariables false
set_option linter.unusedSimpArgs false
theorem refPlain_ev (n : Nat) (hn : n ≤ 100) : Ev (fun k => steepleref08_Plain.f k (n : Int)) ((plB n).map toR) := by
  unfold steepleref08_Plain.f
  refine Ev.down (g := fun i k => steepleref08_Plain.l3 k (n : Int) (i : Int) ((plB i).map toR)) (n := n) ?_ fun i hil hih => ?_
  · exact Ev.step (fun q => by rw [steepleref08_Plain.l3]) (Ev.neg (Int.lt_irrefl _) (Ev.ret _))
  · have f0 : (i : Int) < (n : Int) := by omega
    have f1 : ∀ z : S48, ((plB i).map toR).length + [z].length ≤ 140737488355328 / 16 := fun z => by
      rw [List.length_map, plB_length, List.length_singleton]; omega
    have es : plB (i + 1) = plB i ++ [bitE i] := by unfold plB; rw [List.range_succ, List.map_append]; rfl
    rw [es, List.map_append] at hih
    refine Ev.step (fun q => by rw [steepleref08_Plain.l3]) (Ev.pos f0 ?_)
    rw [w64_succ hil (by omega)]
    exact Ev.bnd (refBit_ev i (by omega)) (Ev.pos (f1 _) hih)
theorem refMay_ev (L : Int) (C : List E) (hC : C.length ≤ 1000000) (m : Int) : Ev (fun k => steepleref08_May.f k L (C.map toR) m) (if (C.length : Int) = m then if AllS L C then 0 else 5 else 6) := by
  have a := All_ev L C hC
  unfold steepleref08_May.f
  rw [List.length_map]
  by_cases c : (C.length : Int) = m
  · rw [if_pos c]
    by_cases d : AllS L C
    · rw [decide_eq_true d] at a
      rw [if_pos d]
      exact Ev.pos c (Ev.bnd a (Ev.neg (by decide) (Ev.ret _)))
    · rw [decide_eq_false d] at a
      rw [if_neg d]
      exact Ev.pos c (Ev.bnd a (Ev.pos rfl (Ev.ret _)))
  · rw [if_neg c]
    exact Ev.neg c (Ev.ret _)
theorem refWord_ev {l K R : Nat} (h : Cd l K R) {C : List E} (hC : C.length = 2 ^ K) : Ev (fun k => steepleref08_Word.f k (l : Int) (K : Int) (R : Int) (C.map toR)) ((wdL K R C).map toR) := by
  have hp := h.pow
  have h10 := h.ten
  have ew : wrap64 ((K : Int) + (R : Int)) = ((K + R : Nat) : Int) := w64_add (by omega) (by omega)
  have hz : (⟨0, 0⟩ : S48) = toR 0 := by unfold toR; rw [hi_zero, lo_zero]
  unfold steepleref08_Word.f
  rw [ew, hz]
  refine Ev.bnd (refPlain_ev (K + R) (by omega)) (Ev.bnd (refPoints_ev (plB (K + R)) (K + R) (by rw [plB_length]; exact Nat.le_refl _) (by omega) 0) ?_)
  have h0 : ([] : List S48) = ((wdL K R C).take 0).map toR := by rw [List.take_zero]; rfl
  rw [h0]
  refine Ev.down (g := fun j k => steepleref08_Word.l6 k (l : Int) (C.map toR) (j : Int) ((plB (K + R)).map toR) ((cosE (plB (K + R)) (K + R) 0).map toR) (((wdL K R C).take j).map toR)) (n := 2 ^ (K + R)) ?_ fun j hj hjh => ?_
  · rw [List.take_of_length_le (by rw [wdL_length]; exact Nat.le_refl _)]
    exact Ev.step (fun q => by rw [steepleref08_Word.l6]) (Ev.neg (by rw [List.length_map, cosE_length]; exact Int.lt_irrefl _) (Ev.ret _))
  · have f1 : j < ((cosE (plB (K + R)) (K + R) 0).map toR).length := by rw [List.length_map, cosE_length]; exact hj
    have f0 : (j : Int) < (((cosE (plB (K + R)) (K + R) 0).map toR).length : Int) := by omega
    have f3 : ∀ z : S48, (((wdL K R C).take j).map toR).length + [z].length ≤ 140737488355328 / 16 := fun z => by
      rw [List.length_map, List.length_take, wdL_length, List.length_singleton]; omega
    have ep : (cosE (plB (K + R)) (K + R) 0).getD j 0 = pt (bE (plB (K + R))) (K + R) j := by rw [cosE_get _ hj, zero_add]
    have hev := refEval6_ev h.good C (by omega) (pt (bE (plB (K + R))) (K + R) j)
    rw [← wdL_get h hC hj] at hev
    rw [map_take_succ toR (wdL K R C) 0 j (by rw [wdL_length]; exact hj)] at hjh
    refine Ev.step (fun q => by rw [steepleref08_Word.l6]) (Ev.pos f0 (Ev.ixS f1 ?_))
    rw [rdR, ep, w64_succ hj (by omega)]
    exact Ev.bnd hev (Ev.pos (f3 _) hjh)
/-- One element of a word. -/
def atJ (K R : Nat) (C : List E) (j : Int) : E := if 0 ≤ j ∧ j < ((2 ^ (K + R) : Nat) : Int) then (wdL K R C).getD j.toNat 0 else 0
def atErr (K R : Nat) (j : Int) : Int := if 0 ≤ j ∧ j < ((2 ^ (K + R) : Nat) : Int) then 0 else 4
end Go.Proofs.YtbapldgapbmdkaaGreat.Sp
namespace Go.Proofs.YtbapldgapbmdkaaGreat.Sp
open Go.Proofs.YtbapldgapbmdkaaGreat.V.B Go.RowKit Go.Proofs.YtbapldgapbmdkaaGreat.B Go.Proofs.YtbapldgapbmdkaaGreat.V.B.Ar Go.Proofs.YtbapldgapbmdkaaGreat.V.B.Tw
set_option linter.unusedVariables false
set_option linter.unusedSimpArgs false
def evF (C : List E) (x : E) : Nat → E := fun j => C.getD j 0 * sqn j x
def evE (L : Int) (C : List E) (x : E) : E := if OfS L x ∧ AllS L C then smT (evF C x) C.length else 0
theorem inL_sqn {l : Nat} (hl : l ≤ 7) {x : E} (hx : InL l x) : ∀ j, InL l (sqn j x)
  | 0 => hx
  | j + 1 => inL_mul hl (inL_sqn hl hx j) (inL_sqn hl hx j)
theorem ofS_nat {L : Int} {x : E} (h : OfS L x) : ∃ l : Nat, L = (l : Int) ∧ l ≤ 7 ∧ InL l x := by
  obtain ⟨h0, h7, hx⟩ := h
  obtain ⟨l, rfl⟩ := Int.eq_ofNat_of_zero_le h0
  exact ⟨l, rfl, by omega, by rwa [Int.toNat_natCast] at hx⟩
theorem ofS_inL {l : Nat} {x : E} (h : OfS (l : Int) x) : InL l x := by have := h.2.2; rwa [Int.toNat_natCast] at this
theorem toR_out : (⟨0, 0⟩ : S48) = toR 0 := by unfold toR; rw [hi_zero, lo_zero]
/-- The coefficients as a list. -/
def coL (B : List E) (k : Nat) : List E := (List.range (k + 1)).map (co (bE B) k)
theorem coL_length (B : List E) (k : Nat) : (coL B k).length = k + 1 := by unfold coL; rw [List.length_map, List.length_range]
theorem coL_get (B : List E) {k j : Nat} (h : j < k + 1) : (coL B k).getD j 0 = co (bE B) k j := range_get _ h
def outP (B : List E) (i j p : Nat) : E := if p < j then co (bE B) (i + 1) p else if p = j then lowSq (co (bE B) i) j else 0
def outL (B : List E) (i j : Nat) : List E := (List.range (i + 2)).map (outP B i j)
theorem outL_length (B : List E) (i j : Nat) : (outL B i j).length = i + 2 := by unfold outL; rw [List.length_map, List.length_range]
theorem outL_get (B : List E) {i p : Nat} (j : Nat) (h : p < i + 2) : (outL B i j).getD p 0 = outP B i j p := range_get _ h
theorem outL_zero (B : List E) (i : Nat) : List.replicate (i + 2) z47 = (outL B i 0).map toS := by
  have e : outL B i 0 = List.replicate (i + 2) 0 := by
    refine ext_getD (by rw [outL_length, List.length_replicate]) fun p hp => ?_
    rw [outL_length] at hp
    rw [outL_get B 0 hp, List.getD_eq_getElem?_getD, List.getElem?_replicate, if_pos hp]
    unfold outP
    rw [if_neg (by omega)]
    by_cases c : p = 0
    · rw [if_pos c]; rfl
    · rw [if_neg c]; rfl
  rw [e, List.map_replicate, toS_zero]
theorem outL_succ (B : List E) (i j : Nat) (h : j < i + 1) : ((outL B i j).set (j + 1) (0 + co (bE B) i j * co (bE B) i j)).set j (lowSq (co (bE B) i) j + co (bE B) i j * W (bE B) i (bE B i)) = outL B i (j + 1) := by
  refine ext_getD (by rw [List.length_set, List.length_set, outL_length, outL_length]) fun p hp => ?_
  rw [List.length_set, List.length_set, outL_length] at hp
  rw [outL_get B (j + 1) hp]
  by_cases c1 : p = j
  · subst c1
    rw [getD_set_self (by rw [List.length_set, outL_length]; exact hp)]
    unfold outP
    rw [if_pos (by omega), co_succ]
  · rw [getD_set_ne (by omega)]
    by_cases c2 : p = j + 1
    · subst c2
      rw [getD_set_self (by rw [outL_length]; exact hp), zero_add]
      unfold outP
      rw [if_neg (by omega), if_pos rfl]; rfl
    · rw [getD_set_ne (by omega), outL_get B j hp]
      unfold outP
      by_cases c3 : p < j
      · rw [if_pos c3, if_pos (by omega)]
      · rw [if_neg c3, if_neg c1, if_neg (by omega), if_neg c2]
theorem outL_last (B : List E) (i : Nat) : outL B i (i + 1) = coL B (i + 1) := by
  refine ext_getD (by rw [outL_length, coL_length]) fun p hp => ?_
  rw [outL_length] at hp
  rw [outL_get B (i + 1) hp, coL_get B (by omega)]
  unfold outP
  by_cases c : p < i + 1
  · rw [if_pos c]
  · have : p = i + 1 := by omega
    subst this
    rw [if_neg c, if_pos rfl]
    show co (bE B) i i * co (bE B) i i = _
    rw [co_top, co_top, one_mul]
theorem inL_co {l : Nat} (hl : l ≤ 7) {B : List E} (hB : AllS (l : Int) B) (i : Nat) : ∀ j, InL l (co (bE B) i j) := by
  induction i with
  | zero =>
    intro j
    rw [co]
    by_cases c : j = 0
    · rw [if_pos c]; exact inL_one l
    · rw [if_neg c]; exact inL_zero l
  | succ i ih =>
    intro j
    rw [co_succ]
    refine inL_add ?_ (inL_mul hl (ih j) (inL_W hl hB i (allS_getD hB i)))
    cases j with
    | zero => exact inL_zero l
    | succ j => exact inL_mul hl (ih j) (ih j)
theorem coL_all {l : Nat} (hl : l ≤ 7) {B : List E} (hB : AllS (l : Int) B) (k : Nat) : AllS (l : Int) (coL B k) := by
  intro x hx
  obtain ⟨j, _, rfl⟩ := List.mem_map.1 hx
  exact ofS_in hl (inL_co hl hB k j)
def cfE (B : List E) (a : Int) : List E := if 0 ≤ a ∧ a ≤ (B.length : Int) then coL B a.toNat else []
theorem Coeffs_ev {l : Nat} {B : List E} (g : Good l B) (a : Int) : Ev (fun k => linpoly_Space_Coeffs.f k (some (spS l B B.length)) a) ((cfE B a).map toS) := by
  have hl := g.lv
  have hlen := g.len
  have e0 : ((spS l B B.length).f1.length : Int) = (B.length : Int) := by unfold spS; dsimp only; rw [List.length_map]
  have e1 : (spS l B B.length).f0 = (l : Int) := rfl
  have e2 : (spS l B B.length).f2 = (tops B B.length).map toS := rfl
  unfold linpoly_Space_Coeffs.f
  dsimp only
  rw [e0]
  by_cases c1 : a < 0
  · have e : cfE B a = [] := if_neg (by omega)
    rw [e]; exact Ev.pos c1 (Ev.ret' rfl)
  refine Ev.neg c1 ?_
  by_cases c2 : a > (B.length : Int)
  · have e : cfE B a = [] := if_neg (by omega)
    rw [e]; exact Ev.pos c2 (Ev.ret' rfl)
  have e : cfE B a = coL B a.toNat := if_pos (by omega)
  obtain ⟨m, rfl⟩ := Int.eq_ofNat_of_zero_le (show 0 ≤ a by omega)
  rw [e, Int.toNat_natCast]
  refine Ev.neg c2 (Ev.bnd One_ev ?_)
  have h0 : [toS 1] = (coL B 0).map toS := rfl
  rw [h0]
  refine Ev.down (g := fun i k => linpoly_Space_Coeffs.l5 k (some (spS l B B.length)) (m : Int) (i : Int) ((coL B i).map toS)) (n := m) ?_ fun i him hih => ?_
  · refine Ev.step (fun q => by rw [linpoly_Space_Coeffs.l5]) ?_
    exact Ev.neg (Int.lt_irrefl _) (Ev.ret' rfl)
  · have f0 : (i : Int) < (m : Int) := by omega
    have hib : i < B.length := by omega
    have ew : wrap64 (((i + 1 : Nat) : Int) + 1) = ((i + 2 : Nat) : Int) := w64_succ (show i + 1 < i + 2 by omega) (by omega)
    have f1 : ((i + 2 : Nat) : Int) ≤ 140737488355328 / ((16 : Nat) : Int) := by omega
    refine Ev.step (fun q => by rw [linpoly_Space_Coeffs.l5]) (Ev.pos f0 ?_)
    rw [List.length_map, coL_length, ew, Int.toNat_natCast, outL_zero B i]
    refine Ev.pos (Int.natCast_nonneg _) (Ev.pos f1 ?_)
    refine Ev.down (g := fun j k => linpoly_Space_Coeffs.l9 k (some (spS l B B.length)) (i : Int) (m : Int) (i : Int) ((i + 1 : Nat) : Int) (j : Int) ((outL B i j).map toS) ((coL B i).map toS)) (n := i + 1) ?_ fun j hj hjh => ?_
    · rw [outL_last]
      refine Ev.step (fun q => by rw [linpoly_Space_Coeffs.l9]) ?_
      rw [w64_succ him (by omega)]
      exact Ev.neg (Int.lt_irrefl _) hih
    · have g0 : (j : Int) < ((i + 1 : Nat) : Int) := by omega
      have g1 : j < ((coL B i).map toS).length := by rw [List.length_map, coL_length]; exact hj
      have g2 : j + 1 < ((outL B i j).map toS).length := by rw [List.length_map, outL_length]; omega
      have g3 : ∀ z : S47, j < (((outL B i j).map toS).set (Int.toNat ((j + 1 : Nat) : Int)) z).length := fun z => by rw [List.length_set]; omega
      have g4 : i < ((tops B B.length).map toS).length := by rw [List.length_map, tops_length]; exact hib
      have hz : (outL B i j).getD (j + 1) 0 = 0 := by
        rw [outL_get B j (by omega)]; unfold outP; rw [if_neg (by omega), if_neg (by omega)]
      have hq : ((outL B i j).set (j + 1) (0 + co (bE B) i j * co (bE B) i j)).getD j 0 = lowSq (co (bE B) i) j := by
        rw [getD_set_ne (by omega), outL_get B j (by omega)]; unfold outP; rw [if_neg (by omega), if_pos rfl]
      refine Ev.step (fun q => by rw [linpoly_Space_Coeffs.l9]) ?_
      rw [w64_succ hj (by omega)]
      refine Ev.pos g0 (Ev.ixS g1 (Ev.ixS g2 ?_))
      rw [rdS, rdS, coL_get B hj, hz, e1, e2]
      refine Ev.bnd (Square_ev hl (inL_co hl g.all i j)) (Ev.bnd (Add_ev _ _) (Ev.ixS g2 (Ev.ixS (g3 _) (Ev.ixS g4 ?_))))
      rw [rdS, tops_get B hib, Int.toNat_natCast, map_set]
      refine Ev.bnd (Mul_ev hl (inL_co hl g.all i j) (inL_W hl g.all i (allS_getD g.all i))) ?_
      rw [rdS, hq]
      refine Ev.bnd (Add_ev _ _) (Ev.ixS (by rw [List.length_map, List.length_set, outL_length]; omega) ?_)
      rw [Int.toNat_natCast, map_set, outL_succ B i j hj]
      exact hjh
end Go.Proofs.YtbapldgapbmdkaaGreat.Sp
namespace Go.Proofs.YtbapldgapbmdkaaGreat.Sp
open Go.Proofs.YtbapldgapbmdkaaGreat.V.B Go.RowKit Go.Proofs.YtbapldgapbmdkaaGreat.B Go.Proofs.YtbapldgapbmdkaaGreat.V.B.Ar Go.Proofs.YtbapldgapbmdkaaGreat.V.B.Tw
set_option linter.unusedVariables false
set_option linter.unusedSimpArgs false
theorem inL_smT {l : Nat} {f : Nat → E} (h : ∀ i, InL l (f i)) : ∀ m, InL l (smT f m)
  | 0 => inL_zero l
  | m + 1 => inL_add (inL_smT h m) (h m)
theorem inL_mulP {l : Nat} (hl : l ≤ 7) {f g : Nat → E} (hf : ∀ i, InL l (f i)) (hg : ∀ i, InL l (g i)) (k : Nat) : InL l (mulP f g k) := inL_smT (fun i => inL_mul hl (hf i) (hg _)) _
theorem inL_Np {l : Nat} (hl : l ≤ 7) {B : List E} (hB : AllS (l : Int) B) (i k : Nat) : InL l (Np (bE B) i k) :=
  inL_smT (fun j => by
    by_cases c : k = 2 ^ j
    · rw [if_pos c]; exact inL_mul hl (inL_co hl hB i j) (inL_inv hl (inL_W hl hB i (allS_getD hB i)))
    · rw [if_neg c]; exact inL_zero l) _
theorem inL_Xb {l : Nat} (hl : l ≤ 7) {B : List E} (hB : AllS (l : Int) B) : ∀ (m j k : Nat), InL l (Xb (bE B) m j k)
  | 0, j, k => by
    rw [Xb]
    by_cases c : k = 0
    · rw [if_pos c]; exact inL_one l
    · rw [if_neg c]; exact inL_zero l
  | m + 1, j, k => by
    rw [Xb]
    by_cases c : j.testBit m = true
    · rw [if_pos c]; exact inL_mulP hl (inL_Xb hl hB m j) (inL_Np hl hB m) k
    · rw [if_neg c]; exact inL_Xb hl hB m j k
theorem inL_pwr {l : Nat} (hl : l ≤ 7) {B : List E} (hB : AllS (l : Int) B) {d : Nat → E} (hd : ∀ j, InL l (d j)) (m p k : Nat) : InL l (pwr (bE B) m d p k) := inL_smT (fun j => inL_mul hl (hd j) (inL_Xb hl hB m j k)) _
theorem inL_cf {l : Nat} {C : List E} (h : AllS (l : Int) C) (i : Nat) : InL l (cf C i) := allS_getD h i
theorem rl_allS' {l : Nat} (hl : l ≤ 7) {M : Nat} {f : Nat → E} (hf : ∀ q, InL l (f q)) : AllS (l : Int) (rl M f) := fun x hx => by
  obtain ⟨q, _, rfl⟩ := List.mem_map.1 hx
  exact ofS_in hl (hf q)
theorem cf_rl {M : Nat} {f : Nat → E} (h : ∀ k, M ≤ k → f k = 0) : cf (rl M f) = f := funext fun k => by
  by_cases c : k < M
  · exact rl_get M f 0 c
  · rw [cf_out (by rw [rl_length]; omega), h k (by omega)]
/-- The normal polynomial in powers. -/
def npL (B : List E) (i : Nat) : List E := rl (2 ^ i + 1) (Np (bE B) i)
def npP (B : List E) (i j k : Nat) : E := smT (fun t => if k = 2 ^ t then co (bE B) i t * invT (W (bE B) i (bE B i)) else 0) j
theorem npL_length (B : List E) (i : Nat) : (npL B i).length = 2 ^ i + 1 := rl_length _ _
theorem npL_cf (B : List E) (i : Nat) : cf (npL B i) = Np (bE B) i := cf_rl fun k hk => Np_high (bE B) i k (by omega)
theorem npL_get (B : List E) (i : Nat) {k : Nat} (h : k < 2 ^ i + 1) : (npL B i).getD k 0 = Np (bE B) i k := rl_get _ _ 0 h
theorem npL_all {l : Nat} (hl : l ≤ 7) {B : List E} (hB : AllS (l : Int) B) (i : Nat) : AllS (l : Int) (npL B i) := rl_allS' hl (inL_Np hl hB i)
theorem np_set (B : List E) (i : Nat) {j : Nat} (N : Nat) : (rl N (npP B i j)).set (2 ^ j) (co (bE B) i j * invT (W (bE B) i (bE B i))) = rl N (npP B i (j + 1)) := by
  rw [rl_set]
  refine rl_congr N fun q hq => ?_
  unfold npP
  rw [smT]
  by_cases c : q = 2 ^ j
  · rw [if_pos c, if_pos c, smT_none _ fun t ht => ?_, zero_add]
    rw [if_neg fun e => ?_]
    have := pow_inj2 (c.symm.trans e)
    omega
  · rw [if_neg c, if_neg c, add_zero]
theorem norm_ev {l : Nat} {B : List E} (g : Good l B) {i : Nat} (hib : i < B.length) : Ev (fun k => novel_norm.f k (some (spS l B B.length)) (i : Int)) ((npL B i).map toS) := by
  have hl := g.lv
  have hlen := g.len
  have hp := pow_len10 (show i ≤ 10 by omega)
  have hpl : 2 ^ i < 2 ^ B.length := Nat.pow_lt_pow_right (by decide) hib
  have hp2 := pow_len10 hlen
  have es := shl_i64 i (show i ≤ 62 by omega)
  have hc := Coeffs_ev g (i : Int)
  have e1 : cfE B (i : Int) = coL B i := if_pos (by omega)
  rw [e1] at hc
  have hpt := Point_ev g ((2 ^ i : Nat) : Int)
  have e2 : ptE B ((2 ^ i : Nat) : Int) = bE B i := by
    have : ptE B ((2 ^ i : Nat) : Int) = pt (bE B) B.length (2 ^ i) := if_pos ⟨Int.natCast_nonneg _, Int.ofNat_lt.2 hpl⟩
    rw [this, pt_bit (bE B) hib]
  rw [e2] at hpt
  have hb := allS_getD g.all i
  have hv := Value_ev g (i : Int) (bE B i)
  have e3 : vaE l B (i : Int) (bE B i) = W (bE B) i (bE B i) := if_pos ⟨by omega, by omega, hb⟩
  rw [e3] at hv
  have hw := inL_W hl g.all i hb
  have ew := w64_succ (show 2 ^ i < 2 ^ i + 1 by omega) (by omega)
  have f1 : ((2 ^ i + 1 : Nat) : Int) ≤ 140737488355328 / ((16 : Nat) : Int) := by omega
  have hz : List.replicate (2 ^ i + 1) z47 = (rl (2 ^ i + 1) (npP B i 0)).map toS := by
    have : rl (2 ^ i + 1) (npP B i 0) = List.replicate (2 ^ i + 1) 0 := by
      refine ext_getD (by rw [rl_length, List.length_replicate]) fun p hp => ?_
      rw [rl_length] at hp
      rw [rl_get _ _ 0 hp, List.getD_eq_getElem?_getD, List.getElem?_replicate, if_pos hp]; rfl
    rw [this, List.map_replicate, toS_zero]
  unfold novel_norm.f
  refine Ev.bnd hc (Ev.bnd (Level_ev l B) (Ev.pos (Int.natCast_nonneg _) ?_))
  rw [es]
  refine Ev.bnd hpt (Ev.bnd hv (Ev.bnd (Inv_ev hl hw) (Ev.pos (Int.natCast_nonneg _) ?_)))
  rw [ew, List.length_map, coL_length, Int.toNat_natCast, hz]
  refine Ev.pos (Int.natCast_nonneg _) (Ev.pos f1 ?_)
  refine Ev.down (g := fun j k => novel_norm.l5 k (some (spS l B B.length)) ((i + 1 : Nat) : Int) (j : Int) (hi (invT (W (bE B) i (bE B i)))) (lo (invT (W (bE B) i (bE B i)))) ((rl (2 ^ i + 1) (npP B i j)).map toS) ((coL B i).map toS)) (n := i + 1) ?_ fun j hj hjh => ?_
  · refine Ev.step (fun q => by rw [novel_norm.l5]) ?_
    exact Ev.neg (Int.lt_irrefl _) (Ev.ret' rfl)
  · have f0 : (j : Int) < ((i + 1 : Nat) : Int) := by omega
    have g1 : j < ((coL B i).map toS).length := by rw [List.length_map, coL_length]; exact hj
    have hpj : 2 ^ j ≤ 2 ^ i := Nat.pow_le_pow_right (by decide) (by omega)
    have g2 : 2 ^ j < ((rl (2 ^ i + 1) (npP B i j)).map toS).length := by rw [List.length_map, rl_length]; omega
    have ej := shl_i64 j (show j ≤ 62 by omega)
    refine Ev.step (fun q => by rw [novel_norm.l5]) (Ev.pos f0 (Ev.ixS g1 (Ev.pos (Int.natCast_nonneg _) (Ev.bnd (Level_ev l B) ?_))))
    rw [rdS, coL_get B hj, ej, w64_succ hj (by omega)]
    refine Ev.bnd (Mul_ev hl (inL_co hl g.all i j) (inL_inv hl hw)) (Ev.ixS g2 ?_)
    rw [Int.toNat_natCast, map_set, np_set]
    exact hjh
theorem wide_ev {n : Nat} (h2 : 2 ≤ n) (hn : n ≤ 100000) : ∃ i : Nat, 2 ^ i < n ∧ n ≤ 2 ^ (i + 1) ∧ Ev (fun k => novel_wide.f k (n : Int)) ((i + 1 : Nat) : Int) := by
  have h1 := Nat.log2_self_le (show n - 1 ≠ 0 by omega)
  have h3 := @Nat.lt_log2_self (n - 1)
  refine ⟨Nat.log2 (n - 1), by omega, by omega, ?_⟩
  have hi20 : Nat.log2 (n - 1) < 20 := by
    apply Nat.lt_of_not_le
    intro hc
    have := Nat.pow_le_pow_right (n := 2) (by decide) hc
    omega
  generalize Nat.log2 (n - 1) = i at *
  unfold novel_wide.f
  refine Ev.down (g := fun j k => novel_wide.l2 k (n : Int) (j : Int)) (n := i + 1) ?_ fun j hj hjh => ?_
  · have es := shl_i64 (i + 1) (show i + 1 ≤ 62 by omega)
    refine Ev.step (fun q => by rw [novel_wide.l2]) (Ev.pos (Int.natCast_nonneg _) ?_)
    rw [es]
    exact Ev.neg (by omega) (Ev.ret _)
  · have es := shl_i64 j (show j ≤ 62 by omega)
    have hpj : 2 ^ j ≤ 2 ^ i := Nat.pow_le_pow_right (by decide) (by omega)
    refine Ev.step (fun q => by rw [novel_wide.l2]) (Ev.pos (Int.natCast_nonneg _) ?_)
    rw [es, w64_succ hj (by omega)]
    exact Ev.pos (by omega) hjh
end Go.Proofs.YtbapldgapbmdkaaGreat.Sp
namespace Go.Proofs.YtbapldgapbmdkaaGreat.Sp
open Go.Proofs.YtbapldgapbmdkaaGreat.V.B Go.RowKit Go.Proofs.YtbapldgapbmdkaaGreat.B Go.Proofs.YtbapldgapbmdkaaGreat.V.B.Ar Go.Proofs.YtbapldgapbmdkaaGreat.V.B.Tw
set_option linter.unusedVariables false
set_option linter.unusedSimpArgs false
theorem Xb_zero (b : Nat → E) (m k : Nat) : Xb b m 0 k = if k = 0 then 1 else 0 := Xb_le b k (Nat.zero_le m) (by decide)
theorem pwr_one (b : Nat → E) (m : Nat) (d : Nat → E) (k : Nat) : pwr b m d 1 k = if k = 0 then d 0 else 0 := by
  show 0 + d 0 * Xb b m 0 k = _
  rw [zero_add, Xb_zero]
  by_cases c : k = 0
  · rw [if_pos c, if_pos c, mul_one]
  · rw [if_neg c, if_neg c, mul_zero]
/-- Short lists are as they are. -/
theorem pwr_short (b : Nat → E) (m : Nat) {C : List E} (h : C.length ≤ 1) (k : Nat) : pwr b m (cf C) C.length k = cf C k := by
  have : C.length = 0 ∨ C.length = 1 := by omega
  rcases this with e | e
  · rw [e, cf_out (by omega)]; rfl
  · rw [e, pwr_one]
    by_cases c : k = 0
    · rw [if_pos c, c]
    · rw [if_neg c, cf_out (by omega)]
def pwL (B C : List E) : List E := rl C.length (pwr (bE B) B.length (cf C) C.length)
theorem pwL_length (B C : List E) : (pwL B C).length = C.length := rl_length _ _
theorem pwL_cf {B C : List E} (h : C.length ≤ 2 ^ B.length) : cf (pwL B C) = pwr (bE B) B.length (cf C) C.length := cf_rl fun k hk => pwr_high (bE B) h _ hk
theorem pwL_short {B C : List E} (h : C.length ≤ 1) : pwL B C = C := by
  refine ext_getD (pwL_length B C) fun k hk => ?_
  rw [pwL_length] at hk
  unfold pwL
  rw [rl_get _ _ 0 hk, pwr_short _ _ h]; rfl
theorem pwL_all {l : Nat} (hl : l ≤ 7) {B C : List E} (hB : AllS (l : Int) B) (hC : AllS (l : Int) C) : AllS (l : Int) (pwL B C) := rl_allS' hl (inL_pwr hl hB (inL_cf hC) _ _)
theorem rl_take {M h : Nat} {f : Nat → E} (hh : h ≤ M) : (rl M f).take h = rl h f := by
  refine ext_getD (by rw [List.length_take, rl_length, rl_length]; omega) fun k hk => ?_
  rw [List.length_take, rl_length] at hk
  rw [List.getD_eq_getElem?_getD, List.getElem?_take, if_pos (by omega), ← List.getD_eq_getElem?_getD, rl_get _ _ 0 (by omega), rl_get _ _ 0 (by omega)]
theorem cf_take {C : List E} {h j : Nat} (hj : j < h) : cf (C.take h) j = cf C j := by
  unfold cf
  rw [List.getD_eq_getElem?_getD, List.getElem?_take, if_pos hj, ← List.getD_eq_getElem?_getD]
theorem cf_drop (C : List E) (h j : Nat) : cf (C.drop h) j = cf C (h + j) := by
  unfold cf
  rw [List.getD_eq_getElem?_getD, List.getElem?_drop, ← List.getD_eq_getElem?_getD]
theorem all_take {l : Nat} {C : List E} (h : AllS (l : Int) C) (n : Nat) : AllS (l : Int) (C.take n) := fun x hx => h x (List.mem_of_mem_take hx)
theorem all_drop {l : Nat} {C : List E} (h : AllS (l : Int) C) (n : Nat) : AllS (l : Int) (C.drop n) := fun x hx => h x (List.mem_of_mem_drop hx)
end Go.Proofs.YtbapldgapbmdkaaGreat.Sp
namespace Go.Proofs.YtbapldgapbmdkaaGreat.Sp
open Go.Proofs.YtbapldgapbmdkaaGreat.V.B Go.RowKit Go.Proofs.YtbapldgapbmdkaaGreat.B Go.Proofs.YtbapldgapbmdkaaGreat.V.B.Ar Go.Proofs.YtbapldgapbmdkaaGreat.V.B.Tw
set_option linter.unusedVariables false
set_option linter.unusedSimpArgs false
/-- Between two powers: so much of the quotient's multiple has been taken away. -/
def dvF (F g : Nat → E) (q : E) (t k p : Nat) : E := if t ≤ p ∧ p < t + k then F p + q * g (p - t) else F p
theorem dv_set (F g : Nat → E) (q : E) {t k M : Nat} (h : t + k < M) : (rl M (dvF F g q t k)).set (t + k) (F (t + k) + q * g k) = rl M (dvF F g q t (k + 1)) := by
  rw [rl_set]
  refine rl_congr M fun p _ => ?_
  unfold dvF
  by_cases c : p = t + k
  · subst c
    rw [if_pos rfl, if_pos (by omega), Nat.add_sub_cancel_left]
  · rw [if_neg c]
    by_cases d : t ≤ p ∧ p < t + k
    · rw [if_pos d, if_pos (by omega)]
    · rw [if_neg d, if_neg (by omega)]
theorem from_in {l : Nat} (hl : l ≤ 7) {B : List E} {i M N t : Nat} (hM : M ≤ 100000) (ht : t + 2 ^ i < M) (htN : t < N) (hN : N ≤ 100000) {F Q : Nat → E} (hF : ∀ p, InL l (F p)) (hQ : ∀ p, InL l (Q p)) {r : List S47} {back : E} (g : Nat → E) (hg : ∀ p, InL l (g p))
    (h : Ev (fun k => novel_from.l9 k (some (spS l B B.length)) ((2 ^ i : Nat) : Int) (wrap64 (((t + 2 ^ i : Nat) : Int) - 1)) ((rl M (dvF F g (Q t) t (2 ^ i + 1))).map toS) ((rl (2 ^ i + 1) g).map toS) (hi back) (lo back) ((rl N Q).map toS)) r) :
    Ev (fun k => novel_from.l13 k (some (spS l B B.length)) ((2 ^ i : Nat) : Int) ((t + 2 ^ i : Nat) : Int) ((2 ^ i + 1 : Nat) : Int) 0 ((rl M F).map toS) ((rl (2 ^ i + 1) g).map toS) (hi back) (lo back) ((rl N Q).map toS)) r := by
  have e0 : rl M F = rl M (dvF F g (Q t) t 0) := rl_congr M fun p _ => by unfold dvF; rw [if_neg (by omega)]
  rw [e0]
  refine Ev.down (g := fun k q => novel_from.l13 q (some (spS l B B.length)) ((2 ^ i : Nat) : Int) ((t + 2 ^ i : Nat) : Int) ((2 ^ i + 1 : Nat) : Int) (k : Int) ((rl M (dvF F g (Q t) t k)).map toS) ((rl (2 ^ i + 1) g).map toS) (hi back) (lo back) ((rl N Q).map toS)) (n := 2 ^ i + 1) ?_ fun k hk hkh => ?_
  · refine Ev.step (fun q => by rw [novel_from.l13]) ?_
    exact Ev.neg (Int.lt_irrefl _) h
  · have f0 : (k : Int) < ((2 ^ i + 1 : Nat) : Int) := by omega
    have f1 : k < ((rl (2 ^ i + 1) g).map toS).length := by rw [List.length_map, rl_length]; exact hk
    have es := w64_sub (show 2 ^ i ≤ t + 2 ^ i by omega) (show t + 2 ^ i ≤ 4611686018427387904 by omega)
    rw [Nat.add_sub_cancel] at es
    have ea := w64_add (i := t) (j := k) (by omega) (by omega)
    have f2 : t + k < ((rl M (dvF F g (Q t) t k)).map toS).length := by rw [List.length_map, rl_length]; omega
    have f3 : t < ((rl N Q).map toS).length := by rw [List.length_map, rl_length]; exact htN
    have e1 : (rl M (dvF F g (Q t) t k)).getD (t + k) 0 = F (t + k) := by rw [rl_get _ _ 0 (by omega)]; unfold dvF; rw [if_neg (by omega)]
    refine Ev.step (fun q => by rw [novel_from.l13]) ?_
    rw [es, ea]
    refine Ev.pos f0 (Ev.ixS f1 (Ev.ixS f2 (Ev.bnd (Level_ev l B) (Ev.ixS f3 ?_))))
    rw [rdS, rdS, rdS, rl_get N Q 0 htN, rl_get _ g 0 hk, e1, w64_succ hk (by omega)]
    refine Ev.bnd (Mul_ev hl (hQ t) (hg k)) (Ev.bnd (Add_ev _ _) (Ev.ixS f2 ?_))
    rw [Int.toNat_natCast, map_set, dv_set F g (Q t) (by omega)]
    exact hkh
theorem from_ev {l : Nat} {B : List E} (g : Good l B) (h5 : B.length ≤ 5) : ∀ (n : Nat) (C : List E), C.length = n → AllS (l : Int) C → C.length ≤ 2 ^ B.length →
    ∃ D : List E, D.length = C.length ∧ AllS (l : Int) D ∧ (∀ k, pwr (bE B) B.length (cf D) C.length k = cf C k) ∧ Ev (fun k => novel_from.f k (some (spS l B B.length)) (C.map toS)) (D.map toS) := by
  have hl := g.lv
  have hp : 2 ^ B.length ≤ 2 ^ 5 := Nat.pow_le_pow_right (by decide) h5
  intro n
  induction n using Nat.strongRecOn with
  | ind n ih =>
  intro C hn aC hC
  by_cases c : (C.length : Int) ≤ 1
  · refine ⟨C, rfl, aC, fun k => pwr_short _ _ (by omega) k, Ev.step (fun q => by rw [novel_from.f]) ?_⟩
    rw [List.length_map]
    exact Ev.pos c (Ev.ret _)
  · obtain ⟨i, h1, h2, hw⟩ := wide_ev (n := C.length) (by omega) (by omega)
    have hib : i < B.length := by
      apply Nat.lt_of_not_le
      intro hc
      have := Nat.pow_le_pow_right (n := 2) (by decide) hc
      omega
    have ei : wrap64 (((i + 1 : Nat) : Int) - 1) = (i : Int) := by rw [w64_id (by omega) (by omega)]; omega
    have es := shl_i64 i (show i ≤ 62 by omega)
    rw [Nat.pow_succ] at h2
    have hpi := Nat.two_pow_pos i
    have hWn := g.new i hib
    have hback : Np (bE B) i (2 ^ i) * invT (Np (bE B) i (2 ^ i)) = 1 := by rw [Np_top]; exact mul_invT (invT_ne hWn)
    have hgI := inL_Np hl g.all i
    have bI : InL l (invT (Np (bE B) i (2 ^ i))) := inL_inv hl (hgI _)
    -- the loop
    have loop : ∀ (t : Nat) (F Q : Nat → E), t + 2 ^ i ≤ C.length → Div (cf C) (Np (bE B) i) (2 ^ i) t F Q → (∀ s, C.length - 2 ^ i ≤ s → Q s = 0) → (∀ p, InL l (F p)) → (∀ p, InL l (Q p)) →
        ∃ D : List E, D.length = C.length ∧ AllS (l : Int) D ∧ (∀ k, pwr (bE B) B.length (cf D) C.length k = cf C k) ∧
          Ev (fun k => novel_from.l9 k (some (spS l B B.length)) ((2 ^ i : Nat) : Int) (wrap64 (((t + 2 ^ i : Nat) : Int) - 1)) ((rl C.length F).map toS) ((rl (2 ^ i + 1) (Np (bE B) i)).map toS) (hi (invT (Np (bE B) i (2 ^ i)))) (lo (invT (Np (bE B) i (2 ^ i)))) ((rl (C.length - 2 ^ i) Q).map toS)) (D.map toS) := by
      intro t
      induction t with
      | zero =>
        intro F Q _ D hQz hF hQ
        have ln : (rl (C.length - 2 ^ i) Q).length = C.length - 2 ^ i := rl_length _ _
        have lh : (rl (2 ^ i) F).length = 2 ^ i := rl_length _ _
        obtain ⟨D1, d1, a1, p1, e1⟩ := ih (2 ^ i) (by omega) (rl (2 ^ i) F) lh (rl_allS' hl hF) (by omega)
        obtain ⟨D2, d2, a2, p2, e2⟩ := ih (C.length - 2 ^ i) (by omega) (rl (C.length - 2 ^ i) Q) ln (rl_allS' hl hQ) (by omega)
        rw [lh] at d1 p1
        rw [ln] at d2 p2
        have cF : cf (rl (2 ^ i) F) = F := cf_rl fun k hk => D.hi k (by omega)
        have cQ : cf (rl (C.length - 2 ^ i) Q) = Q := cf_rl hQz
        rw [cF] at p1
        rw [cQ] at p2
        refine ⟨D1 ++ D2, by rw [List.length_append, d1, d2]; omega, fun x hx => (List.mem_append.1 hx).elim (a1 x) (a2 x), fun k => ?_, ?_⟩
        · have hj := pwr_join (bE B) hib (p := C.length - 2 ^ i) (by omega) D hQz p1 p2 k
          rw [show 2 ^ i + (C.length - 2 ^ i) = C.length by omega] at hj
          rw [← hj]
          refine pwr_congr _ (fun j _ => ?_) k
          unfold cf
          by_cases c : j < 2 ^ i
          · rw [if_pos c, List.getD_eq_getElem?_getD, List.getElem?_append_left (by omega), ← List.getD_eq_getElem?_getD]
          · rw [if_neg c, List.getD_eq_getElem?_getD, List.getElem?_append_right (by omega), d1, ← List.getD_eq_getElem?_getD]
        · have ew : wrap64 (((0 + 2 ^ i : Nat) : Int) - 1) = ((2 ^ i : Nat) : Int) - 1 := by rw [w64_id (by omega) (by omega)]; omega
          have f1 : ((2 ^ i : Nat) : Int) ≤ (((rl C.length F).map toS).length : Int) := by rw [List.length_map, rl_length]; omega
          have f2 : (D1.map toS).length + (D2.map toS).length ≤ 140737488355328 / 16 := by rw [List.length_map, List.length_map]; omega
          rw [ew]
          refine Ev.step (fun q => by rw [novel_from.l9]) (Ev.neg (by omega) (Ev.pos rfl (Ev.pos (Int.natCast_nonneg _) (Ev.pos f1 ?_))))
          rw [Int.toNat_natCast, ← List.map_take, rl_take (by omega), List.map_append]
          exact Ev.bnd e1 (Ev.bnd e2 (Ev.pos f2 (Ev.ret _)))
      | succ t iht =>
        intro F Q htC D hQz hF hQ
        have D' := D.step (fun k hk => Np_high (bE B) i k hk) hback
        have hq : InL l (F (t + 2 ^ i) * invT (Np (bE B) i (2 ^ i))) := inL_mul hl (hF _) bI
        have nF : ∀ p, InL l (if t ≤ p ∧ p ≤ t + 2 ^ i then F p + F (t + 2 ^ i) * invT (Np (bE B) i (2 ^ i)) * Np (bE B) i (p - t) else F p) := fun p => by
          by_cases c : t ≤ p ∧ p ≤ t + 2 ^ i
          · rw [if_pos c]; exact inL_add (hF p) (inL_mul hl hq (hgI _))
          · rw [if_neg c]; exact hF p
        have nQ : ∀ p, InL l (if p = t then F (t + 2 ^ i) * invT (Np (bE B) i (2 ^ i)) else Q p) := fun p => by
          by_cases c : p = t
          · rw [if_pos c]; exact hq
          · rw [if_neg c]; exact hQ p
        obtain ⟨R, r1, r2, r3, r4⟩ := iht _ _ (by omega) D' (fun s hs => by rw [if_neg (by omega)]; exact hQz s hs) nF nQ
        refine ⟨R, r1, r2, r3, ?_⟩
        have ew : wrap64 (((t + 1 + 2 ^ i : Nat) : Int) - 1) = ((t + 2 ^ i : Nat) : Int) := by rw [w64_id (by omega) (by omega)]; omega
        have es2 := w64_sub (show 2 ^ i ≤ t + 2 ^ i by omega) (show t + 2 ^ i ≤ 4611686018427387904 by omega)
        rw [Nat.add_sub_cancel] at es2
        have f0 : ((t + 2 ^ i : Nat) : Int) ≥ ((2 ^ i : Nat) : Int) := by omega
        have f1 : t + 2 ^ i < ((rl C.length F).map toS).length := by rw [List.length_map, rl_length]; omega
        have f2 : t < ((rl (C.length - 2 ^ i) Q).map toS).length := by rw [List.length_map, rl_length]; omega
        rw [ew]
        refine Ev.step (fun q => by rw [novel_from.l9]) ?_
        rw [es2]
        refine Ev.pos f0 (Ev.bnd (Level_ev l B) (Ev.ixS f1 ?_))
        rw [rdS, rl_get _ _ 0 (by omega)]
        refine Ev.bnd (Mul_ev hl (hF _) bI) (Ev.ixS f2 ?_)
        have eq : (rl (C.length - 2 ^ i) Q).set t (F (t + 2 ^ i) * invT (Np (bE B) i (2 ^ i))) = rl (C.length - 2 ^ i) fun s => if s = t then F (t + 2 ^ i) * invT (Np (bE B) i (2 ^ i)) else Q s := rl_set _ _ _ _
        rw [Int.toNat_natCast, map_set, eq, List.length_map, rl_length]
        refine from_in hl (by omega) (by omega) (by omega) (by omega) hF nQ _ hgI ?_
        have eF : rl C.length (dvF F (Np (bE B) i) (if t = t then F (t + 2 ^ i) * invT (Np (bE B) i (2 ^ i)) else Q t) t (2 ^ i + 1)) = rl C.length fun k => if t ≤ k ∧ k ≤ t + 2 ^ i then F k + F (t + 2 ^ i) * invT (Np (bE B) i (2 ^ i)) * Np (bE B) i (k - t) else F k := rl_congr _ fun p _ => by
          unfold dvF
          rw [if_pos rfl]
          by_cases c : t ≤ p ∧ p ≤ t + 2 ^ i
          · rw [if_pos c, if_pos (by omega)]
          · rw [if_neg c, if_neg (by omega)]
        show Ev (fun k => novel_from.l9 k (some (spS l B B.length)) ((2 ^ i : Nat) : Int) (wrap64 (((t + 2 ^ i : Nat) : Int) - 1)) ((rl C.length (dvF F (Np (bE B) i) (if t = t then F (t + 2 ^ i) * invT (Np (bE B) i (2 ^ i)) else Q t) t (2 ^ i + 1))).map toS) _ _ _ _) _
        rw [eF]
        exact r4
    obtain ⟨D, r1, r2, r3, r4⟩ := loop (C.length - 2 ^ i) (cf C) (fun _ => 0) (by omega) (Div.start fun k hk => cf_out (by omega)) (fun _ _ => rfl) (inL_cf aC) (fun _ => inL_zero l)
    refine ⟨D, r1, r2, r3, ?_⟩
    have eC : rl C.length (cf C) = C := (rl_of C 0).symm
    rw [eC, Nat.sub_add_cancel (by omega)] at r4
    have hz : List.replicate (C.length - 2 ^ i) z47 = (rl (C.length - 2 ^ i) fun _ => (0 : E)).map toS := by
      have : (rl (C.length - 2 ^ i) fun _ => (0 : E)) = List.replicate (C.length - 2 ^ i) 0 := by
        refine ext_getD (by rw [rl_length, List.length_replicate]) fun p hp => ?_
        rw [rl_length] at hp
        rw [rl_get _ _ 0 hp, List.getD_eq_getElem?_getD, List.getElem?_replicate, if_pos hp]; rfl
      rw [this, List.map_replicate, toS_zero]
    have ew := w64_sub (show 2 ^ i ≤ C.length by omega) (show C.length ≤ 4611686018427387904 by omega)
    have f1 : 2 ^ i < ((npL B i).map toS).length := by rw [List.length_map, npL_length]; omega
    have f2 : ((C.length - 2 ^ i : Nat) : Int) ≤ 140737488355328 / ((16 : Nat) : Int) := by omega
    refine Ev.step (fun q => by rw [novel_from.f]) ?_
    rw [List.length_map]
    refine Ev.neg c (Ev.bnd hw ?_)
    rw [ei, es, ew]
    refine Ev.pos (Int.natCast_nonneg _) (Ev.bnd (norm_ev g hib) (Ev.bnd (Level_ev l B) (Ev.ixS f1 ?_)))
    rw [rdS, npL_get B i (show 2 ^ i < 2 ^ i + 1 by omega), Int.toNat_natCast, hz]
    exact Ev.bnd (Inv_ev hl (hgI _)) (Ev.pos (Int.natCast_nonneg _) (Ev.pos f2 r4))
end Go.Proofs.YtbapldgapbmdkaaGreat.Sp
namespace Go.Proofs.YtbapldgapbmdkaaGreat.Sp
open Go.Proofs.YtbapldgapbmdkaaGreat.V.B Go.RowKit Go.Proofs.YtbapldgapbmdkaaGreat.B Go.Proofs.YtbapldgapbmdkaaGreat.V.B.Ar Go.Proofs.YtbapldgapbmdkaaGreat.V.B.Tw
set_option linter.unusedVariables false
set_option linter.unusedSimpArgs false
def nkE (l : Nat) (B C : List E) : Int := if (C.length : Int) > ((2 ^ B.length : Nat) : Int) then 6 else if AllS (l : Int) C then 0 else 5
theorem nask_ev {l : Nat} {B : List E} (g : Good l B) {C : List E} (hC : C.length ≤ 100000) : Ev (fun k => novel_ask.f k (some (spS l B B.length)) (C.map toS)) (nkE l B C) := by
  have hlen := g.len
  have a := novelOf_ev (l : Int) C (by omega)
  have es := shl_i64 B.length (by omega)
  unfold novel_ask.f nkE
  refine Ev.bnd (Dim_ev l B) (Ev.pos (Int.natCast_nonneg _) ?_)
  rw [es, List.length_map]
  clear es
  by_cases c : (C.length : Int) > ((2 ^ B.length : Nat) : Int)
  · rw [if_pos c]; exact Ev.pos c (Ev.ret _)
  · rw [if_neg c]
    refine Ev.neg c (Ev.bnd (Level_ev l B) ?_)
    by_cases d : AllS (l : Int) C
    · rw [decide_eq_true d] at a
      rw [if_pos d]
      exact Ev.bnd a (Ev.neg (by decide) (Ev.ret _))
    · rw [decide_eq_false d] at a
      rw [if_neg d]
      exact Ev.bnd a (Ev.pos rfl (Ev.ret _))
theorem nkE_zero {l : Nat} {B C : List E} (h : nkE l B C = 0) : C.length ≤ 2 ^ B.length ∧ AllS (l : Int) C := by
  unfold nkE at h
  by_cases c : (C.length : Int) > ((2 ^ B.length : Nat) : Int)
  · rw [if_pos c] at h; exact absurd h (by decide)
  · rw [if_neg c] at h
    by_cases d : AllS (l : Int) C
    · exact ⟨by have := Int.not_lt.1 c; exact_mod_cast this, d⟩
    · rw [if_neg d] at h; exact absurd h (by decide)
theorem nkE_of {l : Nat} {B C : List E} (h : C.length ≤ 2 ^ B.length) (a : AllS (l : Int) C) : nkE l B C = 0 := by
  unfold nkE
  rw [if_neg (by omega), if_pos a]
theorem From_ev {l : Nat} {B : List E} (g : Good l B) (h5 : B.length ≤ 5) {C : List E} (hC : C.length ≤ 2 ^ B.length) (a : AllS (l : Int) C) :
    ∃ D : List E, D.length = C.length ∧ AllS (l : Int) D ∧ (∀ k, pwr (bE B) B.length (cf D) C.length k = cf C k) ∧ Ev (fun k => novel_From.f k (some (spS l B B.length)) (C.map toS)) (D.map toS, 0) := by
  have hp : 2 ^ B.length ≤ 2 ^ 5 := Nat.pow_le_pow_right (by decide) h5
  have hk := nask_ev g (C := C) (by omega)
  rw [nkE_of hC a] at hk
  obtain ⟨D, r1, r2, r3, r4⟩ := from_ev g h5 C.length C rfl a hC
  refine ⟨D, r1, r2, r3, ?_⟩
  have hcl : Ev (fun k => slices_Clone44.f k (C.map toS)) (C.map toS) := clone_ev C (by omega)
  unfold novel_From.f
  exact Ev.bnd hk (Ev.pos rfl (Ev.bnd hcl (Ev.bnd r4 (Ev.ret _))))
theorem From_no {l : Nat} {B : List E} (g : Good l B) {C : List E} (hC : C.length ≤ 100000) (h : nkE l B C ≠ 0) : Ev (fun k => novel_From.f k (some (spS l B B.length)) (C.map toS)) ([], nkE l B C) := by
  unfold novel_From.f
  exact Ev.bnd (nask_ev g hC) (Ev.neg h (Ev.ret _))
theorem From_nil (X : List S47) : Ev (fun k => novel_From.f k none X) ([], 1) := by
  unfold novel_From.f
  exact Ev.bnd (a := (1 : Int)) ⟨0, fun k _ => rfl⟩ (Ev.neg (by decide) (Ev.ret _))
/-- The values of a polynomial, either way. -/
theorem pw_value {B : List E} {C D : List E} (hl : D.length = C.length) (hC : C.length ≤ 2 ^ B.length) (h : ∀ k, pwr (bE B) B.length (cf D) C.length k = cf C k) (x : E) : smT (exF B D x) D.length = evP (cf C) C.length x := by
  have e := pwr_value (bE B) hC (cf D) x
  rw [evP_congr (fun k _ => h k)] at e
  rw [e, hl]
  rfl
theorem cf_ext {C D : List E} (hl : D.length = C.length) (h : ∀ j, j < C.length → cf D j = cf C j) : D = C := ext_getD hl fun k hk => h k (by omega)
end Go.Proofs.YtbapldgapbmdkaaGreat.Sp
namespace Go.Proofs.YtbapldgapbmdkaaGreat.Sp
open Go.Proofs.YtbapldgapbmdkaaGreat.V.B Go.RowKit Go.Proofs.YtbapldgapbmdkaaGreat.B Go.Proofs.YtbapldgapbmdkaaGreat.V.B.Ar Go.Proofs.YtbapldgapbmdkaaGreat.V.B.Tw
set_option linter.unusedVariables false
set_option linter.unusedSimpArgs false
theorem rdI_get (P : List Int) (i : Nat) : rdI P (i : Int) = P.getD i 0 := by unfold rdI; rw [Int.toNat_natCast]
/-- Is a place one of a word? -/
def inW (N : Nat) (p : Int) : Prop := 0 ≤ p ∧ p < (N : Int)
instance (N : Nat) (p : Int) : Decidable (inW N p) := inferInstanceAs (Decidable (_ ∧ _))
def Dst (P : List Int) (m : Nat) : Prop := ∀ i j, i < j → j < m → P.getD i 0 ≠ P.getD j 0
theorem out_ev {l K R : Nat} (h : Cd l K R) (P : List Int) (hP : P.length ≤ 100000) : ∃ b : Bool, Ev (fun k => slices_ContainsFunc52_c53.f k P (some (cdS l K R))) b ∧ (b = false ↔ ∀ i, i < P.length → inW (2 ^ (K + R)) (P.getD i 0)) := by
  have hp : ∀ x : Int, Ev (fun k => code_Code_mayFill_1.f k x (some (some (cdS l K R)))) (decide (¬ inW (2 ^ (K + R)) x)) := fun x => by
    unfold code_Code_mayFill_1.f
    by_cases c : x < 0
    · rw [decide_eq_true (show ¬ inW (2 ^ (K + R)) x from fun h => by unfold inW at h; omega)]
      exact Ev.pos c (Ev.ret _)
    · refine Ev.neg c (Ev.bnd (Long_ev h) (Ev.ret' ?_))
      refine decide_eq_decide.2 ⟨fun h1 h2 => by unfold inW at h2; omega, fun h1 => ?_⟩
      apply Classical.byContradiction
      intro h2
      exact h1 ⟨by omega, by omega⟩
  have key : ∀ d i, i + d = P.length → ∃ r : Int, Ev (fun k => slices_IndexFunc72_c53.l2 k P (some (cdS l K R)) (P.length : Int) (i : Int)) r ∧ (r < 0 ↔ ∀ j, i ≤ j → j < P.length → inW (2 ^ (K + R)) (P.getD j 0)) := by
    intro d
    induction d with
    | zero =>
      intro i hid
      refine ⟨-1, Ev.step (fun k => by rw [slices_IndexFunc72_c53.l2]) (Ev.neg (by omega) (Ev.ret _)), ?_⟩
      exact ⟨fun _ j h1 h2 => by omega, fun _ => by decide⟩
    | succ d ih =>
      intro i hid
      have hil : i < P.length := by omega
      have f0 : (i : Int) < (P.length : Int) := by omega
      obtain ⟨r, h1, h2⟩ := ih (i + 1) (by omega)
      have go : ∀ {r : Int}, Ev (fun k => (code_Code_mayFill_1.f k (P.getD i 0) (some (some (cdS l K R)))).bind fun r => if r = true then some (i : Int) else slices_IndexFunc72_c53.l2 k P (some (cdS l K R)) (P.length : Int) ((i + 1 : Nat) : Int)) r → Ev (fun k => slices_IndexFunc72_c53.l2 k P (some (cdS l K R)) (P.length : Int) (i : Int)) r := fun h => by
        refine Ev.step (fun k => by rw [slices_IndexFunc72_c53.l2]) (Ev.pos f0 (Ev.ixS hil ?_))
        rw [rdI_get, w64_succ hil (by omega)]
        exact h
      by_cases c : inW (2 ^ (K + R)) (P.getD i 0)
      · refine ⟨r, go (Ev.bnd (hp _) (Ev.neg (by simpa using c) h1)), h2.trans ⟨fun g j h3 h4 => ?_, fun g j h3 h4 => g j (by omega) h4⟩⟩
        by_cases e : j = i
        · rw [e]; exact c
        · exact g j (by omega) h4
      · refine ⟨(i : Int), go (Ev.bnd (hp _) (Ev.pos (by simpa using c) (Ev.ret _))), ⟨fun g => by omega, fun g => absurd (g i (Nat.le_refl _) hil) c⟩⟩
  obtain ⟨r, h1, h2⟩ := key P.length 0 (by omega)
  refine ⟨decide (r ≥ 0), ?_, ?_⟩
  · unfold slices_ContainsFunc52_c53.f slices_IndexFunc72_c53.f
    exact Ev.bnd h1 (Ev.ret _)
  · rw [decide_eq_false_iff_not]
    exact ⟨fun g i hi' => h2.1 (by omega) i (Nat.zero_le _) hi', fun g => by have := h2.2 fun j _ hj => g j hj; omega⟩
theorem contains_ev (P : List Int) (hP : P.length ≤ 100000) (v : Int) : ∃ b : Bool, Ev (fun k => slices_Contains54.f k P v) b ∧ (b = true ↔ ∃ i, i < P.length ∧ P.getD i 0 = v) := by
  have key : ∀ d i, i + d = P.length → ∃ r : Int, Ev (fun k => slices_Index73.l2 k P v (P.length : Int) (i : Int)) r ∧ (r ≥ 0 ↔ ∃ j, i ≤ j ∧ j < P.length ∧ P.getD j 0 = v) := by
    intro d
    induction d with
    | zero =>
      intro i hid
      refine ⟨-1, Ev.step (fun k => by rw [slices_Index73.l2]) (Ev.neg (by omega) (Ev.ret _)), ?_⟩
      exact ⟨fun h => absurd h (by decide), fun ⟨j, h1, h2, _⟩ => by omega⟩
    | succ d ih =>
      intro i hid
      have hil : i < P.length := by omega
      have f0 : (i : Int) < (P.length : Int) := by omega
      obtain ⟨r, h1, h2⟩ := ih (i + 1) (by omega)
      by_cases c : v = P.getD i 0
      · refine ⟨(i : Int), Ev.step (fun k => by rw [slices_Index73.l2]) (Ev.pos f0 (Ev.ixS hil ?_)), ⟨fun _ => ⟨i, Nat.le_refl _, hil, c.symm⟩, fun _ => Int.natCast_nonneg _⟩⟩
        rw [rdI_get]
        exact Ev.pos c (Ev.ret _)
      · refine ⟨r, Ev.step (fun k => by rw [slices_Index73.l2]) (Ev.pos f0 (Ev.ixS hil ?_)), h2.trans ⟨fun ⟨j, h3, h4, h5⟩ => ⟨j, by omega, h4, h5⟩, fun ⟨j, h3, h4, h5⟩ => ⟨j, ?_, h4, h5⟩⟩⟩
        · rw [rdI_get, w64_succ hil (by omega)]
          exact Ev.neg c h1
        · apply Nat.lt_of_le_of_ne h3
          rintro rfl
          exact c h5.symm
  obtain ⟨r, h1, h2⟩ := key P.length 0 (by omega)
  refine ⟨decide (r ≥ 0), ?_, ?_⟩
  · unfold slices_Contains54.f slices_Index73.f
    exact Ev.bnd h1 (Ev.ret _)
  · rw [decide_eq_true_eq, h2]
    exact ⟨fun ⟨j, _, h3, h4⟩ => ⟨j, h3, h4⟩, fun ⟨j, h3, h4⟩ => ⟨j, Nat.zero_le _, h3, h4⟩⟩
theorem take_getI (P : List Int) {i j : Nat} (h : j < i) : (P.take i).getD j 0 = P.getD j 0 := by
  rw [List.getD_eq_getElem?_getD, List.getElem?_take, if_pos h, ← List.getD_eq_getElem?_getD]
/-- Are places there twice? -/
theorem twice_loop {l K R : Nat} (h : Cd l K R) (P : List Int) (hP : P.length ≤ 100000) (V : List E) (hV : V.length ≤ 100000) : ∀ d i, i + d = P.length → Dst P i →
    ∃ r : Int, Ev (fun k => code_Code_mayFill.l8 k P (V.map toS) P (P.length : Int) (i : Int) (some (cdS l K R))) r ∧ ((Dst P P.length ∧ r = askE l V ((2 ^ K : Nat) : Int)) ∨ (¬ Dst P P.length ∧ r = 10)) := by
  intro d
  induction d with
  | zero =>
    intro i hid hD
    have : i = P.length := by omega
    subst this
    exact ⟨_, Ev.step (fun k => by rw [code_Code_mayFill.l8]) (Ev.neg (Int.lt_irrefl _) (Ev.bnd (Size_ev h) (Ev.bnd (cAsk_ev l K R V (by omega) _) (Ev.ret _)))), .inl ⟨hD, rfl⟩⟩
  | succ d ih =>
    intro i hid hD
    have hil : i < P.length := by omega
    have f0 : (i : Int) < (P.length : Int) := by omega
    obtain ⟨b, hb, hb2⟩ := contains_ev (P.take i) (by rw [List.length_take]; omega) (P.getD i 0)
    have lt : (P.take i).length = i := by rw [List.length_take]; omega
    have go : ∀ {r : Int}, Ev (fun k => if b = true then some 10 else code_Code_mayFill.l8 k P (V.map toS) P (P.length : Int) ((i + 1 : Nat) : Int) (some (cdS l K R))) r → Ev (fun k => code_Code_mayFill.l8 k P (V.map toS) P (P.length : Int) (i : Int) (some (cdS l K R))) r := fun hh => by
      refine Ev.step (fun k => by rw [code_Code_mayFill.l8]) (Ev.pos f0 (Ev.ixS hil (Ev.pos (Int.natCast_nonneg _) (Ev.pos (by omega) ?_))))
      rw [rdI_get, Int.toNat_natCast, w64_succ hil (by omega)]
      exact Ev.bnd hb hh
    by_cases c : b = true
    · obtain ⟨j, hj, he⟩ := hb2.1 c
      rw [lt] at hj
      rw [take_getI P hj] at he
      exact ⟨10, go (Ev.pos c (Ev.ret _)), .inr ⟨fun hh => hh j i hj hil he, rfl⟩⟩
    · obtain ⟨r, h1, h2⟩ := ih (i + 1) (by omega) fun a q h3 h4 => by
        by_cases e : q = i
        · subst e
          intro he
          exact c (hb2.2 ⟨a, by omega, by rw [take_getI P h3]; exact he⟩)
        · exact hD a q h3 (by omega)
      exact ⟨r, go (Ev.neg c h1), h2⟩
theorem mayFill_ev {l K R : Nat} (h : Cd l K R) (P : List Int) (hP : P.length ≤ 100000) (V : List E) (hV : V.length ≤ 100000) : ∃ r : Int, Ev (fun k => code_Code_mayFill.f k (some (cdS l K R)) P (V.map toS)) r ∧
    ((¬ (P.length = 2 ^ K ∧ V.length = 2 ^ K) ∧ r = 6) ∨ ((P.length = 2 ^ K ∧ V.length = 2 ^ K) ∧ ((¬ (∀ i, i < P.length → inW (2 ^ (K + R)) (P.getD i 0)) ∧ r = 4) ∨ ((∀ i, i < P.length → inW (2 ^ (K + R)) (P.getD i 0)) ∧ ((Dst P P.length ∧ r = askE l V ((2 ^ K : Nat) : Int)) ∨ (¬ Dst P P.length ∧ r = 10)))))) := by
  obtain ⟨b, hb, hb2⟩ := out_ev h P hP
  obtain ⟨r, hr, hr2⟩ := twice_loop h P hP V hV P.length 0 (by omega) fun i j _ h4 => by omega
  unfold code_Code_mayFill.f
  rw [List.length_map]
  by_cases c1 : (P.length : Int) = ((2 ^ K : Nat) : Int)
  · by_cases c2 : (V.length : Int) = ((2 ^ K : Nat) : Int)
    · have hl : P.length = 2 ^ K ∧ V.length = 2 ^ K := by omega
      by_cases c3 : b = true
      · refine ⟨4, Ev.bnd (Size_ev h) (Ev.pos c1 (Ev.bnd (Size_ev h) (Ev.pos c2 (Ev.bnd hb (Ev.pos c3 (Ev.ret _)))))), .inr ⟨hl, .inl ⟨fun hh => ?_, rfl⟩⟩⟩
        have := hb2.2 hh
        rw [this] at c3; cases c3
      · exact ⟨r, Ev.bnd (Size_ev h) (Ev.pos c1 (Ev.bnd (Size_ev h) (Ev.pos c2 (Ev.bnd hb (Ev.neg c3 hr))))), .inr ⟨hl, .inr ⟨hb2.1 (by simpa using c3), hr2⟩⟩⟩
    · exact ⟨6, Ev.bnd (Size_ev h) (Ev.pos c1 (Ev.bnd (Size_ev h) (Ev.neg c2 (Ev.ret _)))), .inl ⟨by omega, rfl⟩⟩
  · exact ⟨6, Ev.bnd (Size_ev h) (Ev.neg c1 (Ev.ret _)), .inl ⟨by omega, rfl⟩⟩
theorem Div_ev {l : Nat} (hl : l ≤ 7) {x y : E} (hx : InL l x) (hy : InL l y) : Ev (fun k => tower_Div.f k (l : Int) (toS x) (toS y)) (toS (x * invT y)) := by
  unfold tower_Div.f
  exact Ev.bnd (Inv_ev hl hy) (Ev.bnd (Mul_ev hl hx (inL_inv hl hy)) (Ev.ret _))
/-- Newton's steps. -/
def nwF (F : Nat → E) (Z : List E) (by_ : E) (j k : Nat) : E := if k < j then F k + by_ * cf Z k else F k
structure Nw (l N : Nat) (x : Nat → E) (V : List E) (i : Nat) (F : Nat → E) (Z : List E) : Prop where
  len : Z.length = i + 1
  zro : ∀ y, evP (cf Z) (i + 1) y = zro x i y
  val : ∀ j, j < i → evP F N (x j) = V.getD j 0
  all : AllS (l : Int) Z
  inl : ∀ k, InL l (F k)
theorem lin_val (x : E) : evP (cf [x, 1]) 2 = fun y => y + x := funext fun y => by
  show (0 + x * 1) + 1 * (1 * y) = y + x
  rw [zero_add, mul_one, one_mul, one_mul, add_comm]
theorem fill_z {l : Nat} (hl : l ≤ 7) {Z : List E} {x : E} {i : Nat} (len : Z.length = i + 1) : (∀ y, evP (cf (cvL Z [x, 1])) (i + 2) y = evP (cf Z) (i + 1) y * (y + x)) ∧ (cvL Z [x, 1]).length = i + 2 := by
  have hlen : (cvL Z [x, 1]).length = i + 2 := by rw [cvL_length, len]; rfl
  refine ⟨fun y => ?_, hlen⟩
  have e1 : evP (cf (cvL Z [x, 1])) (i + 2) y = evP (mulP (cf Z) (cf [x, 1])) (i + 1 + 1) y := evP_congr (fun k hk => by
    rw [show cf (cvL Z [x, 1]) k = mulP (cf Z) (cf [x, 1]) k from rl_get _ _ 0 (by rw [len]; show k < i + 1 + 2 - 1; omega)]) y
  rw [e1, evP_mul (p := i) (q := 1) (fun k hk => cf_out (by omega)) (fun k hk => cf_out (by show 2 ≤ k; omega)), lin_val]
theorem cvL_all {l : Nat} (hl : l ≤ 7) {C D : List E} (aC : AllS (l : Int) C) (aD : AllS (l : Int) D) : AllS (l : Int) (cvL C D) := rl_allS' hl (inL_mulP hl (inL_cf aC) (inL_cf aD))
theorem fill_loop {l K R : Nat} (h : Cd l K R) (h5 : K + R ≤ 5) {P : List Int} {V : List E} (hP : P.length = 2 ^ K) (hV : V.length = 2 ^ K) (hin : ∀ i, i < P.length → inW (2 ^ (K + R)) (P.getD i 0)) (hD : Dst P P.length) (aV : AllS (l : Int) V) :
    ∀ d i, i + d = 2 ^ K → ∀ (F : Nat → E) (Z : List E), Nw l (2 ^ K) (fun j => pt (bE (plB (K + R))) (K + R) (P.getD j 0).toNat) V i F Z →
      ∃ D : List E, D.length = 2 ^ K ∧ AllS (l : Int) D ∧ (∀ j, j < 2 ^ K → (wdL K R D).getD (P.getD j 0).toNat 0 = V.getD j 0) ∧
        Ev (fun k => code_Code_Fill.l7 k (some (cdS l K R)) (V.map toS) (l : Int) P (P.length : Int) (i : Int) ((rl (2 ^ K) F).map toS) (Z.map toS)) (D.map toS, 0) := by
  have hp := h.pow
  have hl := h.l7
  have g := h.good
  have hp5 : 2 ^ (K + R) ≤ 2 ^ 5 := Nat.pow_le_pow_right (by decide) h5
  have hlB : (plB (K + R)).length = K + R := plB_length _
  have hnew : New (bE (plB (K + R))) (K + R) := by have := g.new; rwa [hlB] at this
  have xI : ∀ j, InL l (pt (bE (plB (K + R))) (K + R) (P.getD j 0).toNat) := fun j => inL_pt g.all _ _
  have xne : ∀ i j, i < 2 ^ K → j < 2 ^ K → i ≠ j → pt (bE (plB (K + R))) (K + R) (P.getD i 0).toNat ≠ pt (bE (plB (K + R))) (K + R) (P.getD j 0).toNat := fun i j hi hj hne e => by
    have h1 := hin i (by omega)
    have h2 := hin j (by omega)
    unfold inW at h1 h2
    have := pt_inj (bE (plB (K + R))) (K + R) hnew _ _ (by omega) (by omega) e
    rcases Nat.lt_or_gt_of_ne hne with c | c
    · exact hD i j c (by omega) (by omega)
    · exact hD j i c (by omega) (by omega)
  intro d
  induction d with
  | zero =>
    intro i hid F Z nw
    have : i = 2 ^ K := by omega
    subst this
    have aF : AllS (l : Int) (rl (2 ^ K) F) := rl_allS' hl nw.inl
    obtain ⟨D, d1, d2, d3, d4⟩ := From_ev g (by rw [hlB]; exact h5) (C := rl (2 ^ K) F) (by rw [rl_length, hlB]; exact hp.1) aF
    have d1' := d1
    rw [rl_length] at d1'
    refine ⟨D, d1', d2, fun j hj => ?_, ?_⟩
    · have h1 := hin j (by omega)
      unfold inW at h1
      rw [wdL_get h d1' (by omega), pw_value d1 (by rw [rl_length, hlB]; exact hp.1) d3, rl_length]
      rw [← nw.val j hj]
      exact evP_congr (fun k hk => rl_get _ _ 0 hk) _
    · refine Ev.step (fun k => by rw [code_Code_Fill.l7]) (Ev.neg (by omega) ?_)
      show Ev (fun k => (novel_From.f k (some (spS l (plB (K + R)) (plB (K + R)).length)) ((rl (2 ^ K) F).map toS)).bind fun r11 => some (r11.1, r11.2)) _
      exact Ev.bnd d4 (Ev.ret _)
  | succ d ih =>
    intro i hid F Z nw
    have hil : i < 2 ^ K := by omega
    have f1 : i < P.length := by omega
    have f0 : (i : Int) < (P.length : Int) := by omega
    have f2 : i < (V.map toS).length := by rw [List.length_map]; omega
    have zl := nw.len
    have aZ := nw.all
    have vI : InL l (V.getD i 0) := allS_getD aV i
    have hpi := hin i f1
    unfold inW at hpi
    have ePi : P.getD i 0 = (((P.getD i 0).toNat : Nat) : Int) := by omega
    have hpt := Point_ev g (P.getD i 0)
    have e3 : ptE (plB (K + R)) (P.getD i 0) = pt (bE (plB (K + R))) (K + R) (P.getD i 0).toNat := by
      unfold ptE; rw [hlB]; exact if_pos hpi
    rw [e3] at hpt
    have hxI := xI i
    generalize hx : (fun j => pt (bE (plB (K + R))) (K + R) (P.getD j 0).toNat) = x at *
    have hxi : pt (bE (plB (K + R))) (K + R) (P.getD i 0).toNat = x i := by rw [← hx]
    rw [hxi] at hpt hxI
    have xne' : ∀ j, j < i → x j ≠ x i := fun j hj => by rw [← hx]; exact xne j i (by omega) hil (by omega)
    have aF : AllS (l : Int) (rl (2 ^ K) F) := rl_allS' hl nw.inl
    have ox := ofS_in hl hxI
    have a1 := nAt_ev (l : Int) (rl (2 ^ K) F) (by rw [rl_length]; omega) (x i)
    have e1 : atE (l : Int) (rl (2 ^ K) F) (x i) = evP F (2 ^ K) (x i) := by
      unfold atE
      rw [if_pos ⟨ox, aF⟩, rl_length]
      exact evP_congr (fun k hk => rl_get _ _ 0 hk) _
    have i1 : InL l (evP F (2 ^ K) (x i)) := by rw [← e1]; exact inL_at hl _ _
    rw [e1] at a1
    have a2 := nAt_ev (l : Int) Z (by omega) (x i)
    have e2 : atE (l : Int) Z (x i) = zro x i (x i) := by
      unfold atE
      rw [if_pos ⟨ox, aZ⟩, zl, nw.zro]
    have i2 : InL l (zro x i (x i)) := by rw [← e2]; exact inL_at hl _ _
    rw [e2] at a2
    have hz0 : zro x i (x i) ≠ 0 := zro_ne x xne'
    have hdv := Div_ev hl (inL_add vI i1) i2
    generalize hby : (V.getD i 0 + evP F (2 ^ K) (x i)) * invT (zro x i (x i)) = q at *
    have qI : InL l q := by rw [← hby]; exact inL_mul hl (inL_add vI i1) (inL_inv hl i2)
    -- what follows the inner loop
    have tl := fill_z hl (x := x i) zl
    have aX : AllS (l : Int) [x i, 1] := fun y hy => by
      rcases List.mem_cons.1 hy with rfl | hy
      · exact ox
      · rcases List.mem_cons.1 hy with rfl | hy
        · exact ofS_in hl (inL_one l)
        · cases hy
    have ht := nTimes_ev (l : Int) Z [x i, 1] (by omega) (by show 2 ≤ 100; decide)
    have et : tmE (l : Int) Z [x i, 1] = cvL Z [x i, 1] := if_neg (by
      rintro (h | h | h | h)
      · omega
      · exact Nat.succ_ne_zero 1 h
      · exact h aZ
      · exact h aX)
    rw [et] at ht
    have nw' : Nw l (2 ^ K) x V (i + 1) (fun k => F k + q * cf Z k) (cvL Z [x i, 1]) := by
      have hev : ∀ y, evP (fun k => F k + q * cf Z k) (2 ^ K) y = evP F (2 ^ K) y + q * zro x i y := fun y => by
        rw [evP_add, evP_scale, ← nw.zro y]
        congr 2
        exact evP_more (by omega) (fun k hk => cf_out (by omega)) y
      refine ⟨tl.2, fun y => ?_, fun j hj => ?_, cvL_all hl aZ aX, fun k => inL_add (nw.inl k) (inL_mul hl qI (inL_cf aZ k))⟩
      · rw [tl.1 y, nw.zro y]; rfl
      · rw [hev]
        by_cases c : j = i
        · subst c
          rw [← hby, mul_assoc, invT_mul hz0, mul_one, add_comm, add_assoc, add_self, add_zero]
        · rw [nw.val j (by omega), zro_zero x (show j < i by omega), mul_zero, add_zero]
    obtain ⟨D, d1, d2, d3, d4⟩ := ih (i + 1) (by omega) _ _ nw'
    refine ⟨D, d1, d2, d3, ?_⟩
    have e0 : rl (2 ^ K) F = rl (2 ^ K) (nwF F Z q 0) := rl_congr _ fun k _ => by unfold nwF; rw [if_neg (by omega)]
    refine Ev.step (fun k => by rw [code_Code_Fill.l7]) (Ev.pos f0 (Ev.ixS f1 ?_))
    show Ev (fun k => (linpoly_Space_Point.f k (some (spS l (plB (K + R)) (plB (K + R)).length)) (rdI P (i : Int))).bind fun r5 => _) _
    rw [rdI_get]
    refine Ev.bnd hpt (Ev.ixS f2 (Ev.bnd a1 ?_))
    rw [rdS]
    refine Ev.bnd (Add_ev _ _) (Ev.bnd a2 (Ev.bnd hdv ?_))
    rw [List.length_map, zl, e0]
    refine Ev.down (g := fun j k => code_Code_Fill.l13 k (some (cdS l K R)) (V.map toS) (l : Int) P (P.length : Int) (i : Int) ((i + 1 : Nat) : Int) (j : Int) ((rl (2 ^ K) (nwF F Z q j)).map toS) (Z.map toS) (hi (x i)) (lo (x i)) (hi q) (lo q)) (n := i + 1) ?_ fun j hj hjh => ?_
    · have e4 : rl (2 ^ K) (nwF F Z q (i + 1)) = rl (2 ^ K) fun k => F k + q * cf Z k := rl_congr _ fun k _ => by
        unfold nwF
        by_cases c : k < i + 1
        · rw [if_pos c]
        · rw [if_neg c, cf_out (C := Z) (by omega), mul_zero, add_zero]
      rw [e4]
      refine Ev.step (fun k => by rw [code_Code_Fill.l13]) (Ev.neg (Int.lt_irrefl _) (Ev.bnd One_ev ?_))
      rw [w64_succ f1 (by omega)]
      exact Ev.bnd ht d4
    · have g0 : (j : Int) < ((i + 1 : Nat) : Int) := by omega
      have g1 : j < (Z.map toS).length := by rw [List.length_map]; omega
      have g2 : j < ((rl (2 ^ K) (nwF F Z q j)).map toS).length := by rw [List.length_map, rl_length]; omega
      have e5 : (rl (2 ^ K) (nwF F Z q j)).getD j 0 = F j := by rw [rl_get _ _ 0 (by omega)]; unfold nwF; rw [if_neg (by omega)]
      have e6 : (rl (2 ^ K) (nwF F Z q j)).set j (F j + q * Z.getD j 0) = rl (2 ^ K) (nwF F Z q (j + 1)) := by
        rw [rl_set]
        refine rl_congr _ fun k _ => ?_
        unfold nwF
        by_cases c : k = j
        · subst c; rw [if_pos rfl, if_pos (by omega)]; rfl
        · rw [if_neg c]
          by_cases d : k < j
          · rw [if_pos d, if_pos (by omega)]
          · rw [if_neg d, if_neg (by omega)]
      refine Ev.step (fun k => by rw [code_Code_Fill.l13]) (Ev.pos g0 (Ev.ixS g1 (Ev.ixS g2 ?_)))
      rw [rdS, rdS, e5, w64_succ hj (by omega)]
      refine Ev.bnd (Mul_ev hl qI (inL_cf aZ j)) (Ev.bnd (Add_ev _ _) (Ev.ixS g2 ?_))
      rw [Int.toNat_natCast, map_set, e6]
      exact hjh
theorem Fill_fit {l K R : Nat} (h : Cd l K R) (h5 : K + R ≤ 5) {P : List Int} {V : List E} (hP : P.length = 2 ^ K) (hV : V.length = 2 ^ K) (hin : ∀ i, i < P.length → inW (2 ^ (K + R)) (P.getD i 0)) (hD : Dst P P.length) (aV : AllS (l : Int) V) :
    ∃ D : List E, D.length = 2 ^ K ∧ AllS (l : Int) D ∧ (∀ j, j < 2 ^ K → (wdL K R D).getD (P.getD j 0).toNat 0 = V.getD j 0) ∧ Ev (fun k => code_Code_Fill.f k (some (cdS l K R)) P (V.map toS)) (D.map toS, 0) := by
  have hp := h.pow
  have hl := h.l7
  obtain ⟨r, hr, hr2⟩ := mayFill_ev h P (by omega) V (by omega)
  have r0 : r = 0 := by
    rcases hr2 with ⟨h1, _⟩ | ⟨_, ⟨h1, _⟩ | ⟨_, ⟨_, h1⟩ | ⟨h1, _⟩⟩⟩
    · exact absurd ⟨hP, hV⟩ h1
    · exact absurd hin h1
    · rw [h1]; unfold askE; rw [hV, if_pos rfl, if_pos aV]
    · exact absurd hD h1
  rw [r0] at hr
  have nw : Nw l (2 ^ K) (fun j => pt (bE (plB (K + R))) (K + R) (P.getD j 0).toNat) V 0 (fun _ => 0) [1] :=
    ⟨rfl, fun y => by show 0 + 1 * 1 = (1 : E); rw [mul_one, zero_add], fun j hj => by omega, fun y hy => ((List.mem_cons.1 hy).elim (fun e => e ▸ ofS_in hl (inL_one l)) fun h => by cases h), fun _ => inL_zero l⟩
  obtain ⟨D, d1, d2, d3, d4⟩ := fill_loop h h5 hP hV hin hD aV (2 ^ K) 0 (by omega) _ _ nw
  refine ⟨D, d1, d2, d3, ?_⟩
  have f1 : ((2 ^ K : Nat) : Int) ≤ 140737488355328 / ((16 : Nat) : Int) := by omega
  have hz : List.replicate (2 ^ K) z47 = (rl (2 ^ K) fun _ => (0 : E)).map toS := by
    have : (rl (2 ^ K) fun _ => (0 : E)) = List.replicate (2 ^ K) 0 := by
      refine ext_getD (by rw [rl_length, List.length_replicate]) fun p hp => ?_
      rw [rl_length] at hp
      rw [rl_get _ _ 0 hp, List.getD_eq_getElem?_getD, List.getElem?_replicate, if_pos hp]; rfl
    rw [this, List.map_replicate, toS_zero]
  unfold code_Code_Fill.f
  refine Ev.bnd hr (Ev.pos rfl (Ev.bnd (cLevel_ev l K R) (Ev.bnd (Size_ev h) (Ev.pos (Int.natCast_nonneg _) (Ev.pos f1 (Ev.bnd One_ev ?_))))))
  rw [Int.toNat_natCast, hz]
  exact d4
theorem Fill_no {l K R : Nat} {P : List Int} {V : List E} {r : Int} (hr : Ev (fun k => code_Code_mayFill.f k (some (cdS l K R)) P (V.map toS)) r) (h0 : r ≠ 0) : Ev (fun k => code_Code_Fill.f k (some (cdS l K R)) P (V.map toS)) ([], r) := by
  unfold code_Code_Fill.f
  exact Ev.bnd hr (Ev.neg h0 (Ev.ret _))
end Go.Proofs.YtbapldgapbmdkaaGreat.Sp
namespace Go.Proofs.YtbapldgapbmdkaaGreat.Sp
open Go.Proofs.YtbapldgapbmdkaaGreat.V.B Go.RowKit Go.Proofs.YtbapldgapbmdkaaGreat.B Go.Proofs.YtbapldgapbmdkaaGreat.V.B.Ar Go.Proofs.YtbapldgapbmdkaaGreat.V.B.Tw
set_option linter.unusedVariables false
set_option linter.unusedSimpArgs false
def neP (C D : List E) (i : Nat) : Bool := decide (C.getD i 0 ≠ D.getD i 0)
def apN (C D : List E) : Nat := (max C.length D.length - min C.length D.length) + cntP (neP C D) (min C.length D.length)
theorem cntP_some {p : Nat → Bool} {n i : Nat} (h : i < n) (hi : p i = true) : 0 < cntP p n := by
  induction n with
  | zero => omega
  | succ n ih =>
    rw [cntP]
    by_cases c : i = n
    · subst c; rw [if_pos hi]; omega
    · have := ih (by omega); omega
theorem apN_self (C : List E) : apN C C = 0 := by
  unfold apN
  rw [Nat.max_self, Nat.min_self, Nat.sub_self, Nat.zero_add]
  exact cntP_zero _ _ fun i _ => by unfold neP; exact decide_eq_false fun h => h rfl
theorem apN_zero {C D : List E} (hl : C.length = D.length) (h : apN C D = 0) : C = D := by
  refine ext_getD hl fun i hi => ?_
  apply Classical.byContradiction
  intro hne
  have := cntP_some (p := neP C D) (n := min C.length D.length) (i := i) (by omega) (decide_eq_true hne)
  unfold apN at h
  omega
theorem apart_ev (C D : List E) (hC : C.length ≤ 100000) (hD : D.length ≤ 100000) : Ev (fun k => code_Apart.f k (C.map toS) (D.map toS)) ((apN C D : Nat) : Int) := by
  have eM : (if (D.length : Int) > (C.length : Int) then (D.length : Int) else (C.length : Int)) = ((max C.length D.length : Nat) : Int) := by split <;> omega
  have em : (if (D.length : Int) < (C.length : Int) then (D.length : Int) else (C.length : Int)) = ((min C.length D.length : Nat) : Int) := by split <;> omega
  have es := w64_sub (show min C.length D.length ≤ max C.length D.length by omega) (show max C.length D.length ≤ 4611686018427387904 by omega)
  unfold code_Apart.f
  rw [List.length_map, List.length_map, eM, em, es]
  clear eM em es
  have hg : max C.length D.length - min C.length D.length ≤ 100000 := by omega
  have hm1 : min C.length D.length ≤ C.length := Nat.min_le_left _ _
  have hm2 : min C.length D.length ≤ D.length := Nat.min_le_right _ _
  unfold apN
  generalize max C.length D.length - min C.length D.length = g at *
  generalize min C.length D.length = m at *
  suffices key : Ev (fun k => code_Apart.l3 k (C.map toS) (D.map toS) ((g + cntP (neP C D) 0 : Nat) : Int) (m : Int) ((0 : Nat) : Int)) ((g + cntP (neP C D) m : Nat) : Int) from key
  refine Ev.down (g := fun i k => code_Apart.l3 k (C.map toS) (D.map toS) ((g + cntP (neP C D) i : Nat) : Int) (m : Int) (i : Int)) (n := m) ?_ fun i hil hih => ?_
  · exact Ev.step (fun q => by rw [code_Apart.l3]) (Ev.neg (Int.lt_irrefl _) (Ev.ret _))
  · have f1 : i < (C.map toS).length := by rw [List.length_map]; omega
    have f2 : i < (D.map toS).length := by rw [List.length_map]; omega
    have f0 : (i : Int) < (m : Int) := by omega
    have hc := cntP_le (neP C D) i
    have ew := w64_succ hil (show m ≤ 4611686018427387904 by omega)
    have ec := w64_succ (show g + cntP (neP C D) i < g + cntP (neP C D) i + 1 by omega) (by omega)
    rw [cntP] at hih
    refine Ev.step (fun q => by rw [code_Apart.l3]) (Ev.pos f0 (Ev.ixS f1 (Ev.ixS f2 ?_)))
    rw [rdS, rdS, ew, ec]
    clear ew ec
    by_cases c : C.getD i 0 = D.getD i 0
    · have e : neP C D i = false := decide_eq_false fun h => h c
      rw [e, if_neg Bool.false_ne_true] at hih
      exact Ev.pos (by rw [c]; exact ⟨rfl, rfl⟩) hih
    · have e : neP C D i = true := decide_eq_true c
      rw [e, if_pos rfl, ← Nat.add_assoc] at hih
      exact Ev.neg (fun h => c (hl_inj h.1 h.2)) hih
def neQ (C D : List E) (i : Nat) : Bool := decide (min C.length D.length ≤ i) || neP C D i
theorem neQ_all (C D : List E) : cntP (neQ C D) (max C.length D.length) = apN C D := by
  have e : max C.length D.length = min C.length D.length + (max C.length D.length - min C.length D.length) := by omega
  have h2 : cntP (fun i => neQ C D (min C.length D.length + i)) (max C.length D.length - min C.length D.length) = max C.length D.length - min C.length D.length :=
    cntP_all _ _ fun i _ => by unfold neQ; rw [decide_eq_true (Nat.le_add_right _ _)]; rfl
  have h1 : cntP (neQ C D) (min C.length D.length) = cntP (neP C D) (min C.length D.length) := cntP_congr _ fun i hi => by unfold neQ; rw [decide_eq_false (by omega)]; rfl
  have h3 : cntP (neQ C D) (min C.length D.length + (max C.length D.length - min C.length D.length)) = cntP (neP C D) (min C.length D.length) + (max C.length D.length - min C.length D.length) := by rw [cntP_add, h1, h2]
  rw [← e] at h3
  unfold apN
  omega
theorem cntP_not (p : Nat → Bool) : ∀ n, cntP p n + cntP (fun i => !p i) n = n
  | 0 => rfl
  | n + 1 => by
    have := cntP_not p n
    rw [cntP, cntP]
    cases p n <;> simp <;> omega
/-- Words of messages that differ are apart. -/
theorem words_apart {l K R : Nat} (h : Cd l K R) {C D : List E} (hC : C.length = 2 ^ K) (hD : D.length = 2 ^ K) (hne : C ≠ D) : 2 ^ (K + R) - 2 ^ K < apN (wdL K R C) (wdL K R D) := by
  have hp := h.pow
  have g := h.good
  have hlB : (plB (K + R)).length = K + R := plB_length _
  have hj : ∃ j, j < 2 ^ K ∧ C.getD j 0 ≠ D.getD j 0 := by
    apply Classical.byContradiction
    intro hno
    refine hne (ext_getD (by rw [hC, hD]) fun i hi => ?_)
    apply Classical.byContradiction
    intro hh
    exact hno ⟨i, by omega, hh⟩
  have hnew : New (bE (plB (K + R))) (K + R) := by have := g.new; rwa [hlB] at this
  have key := agree_few (bE (plB (K + R))) hnew hp.1 (fun j => C.getD j 0) (fun j => D.getD j 0) hj (fun i => pt (bE (plB (K + R))) (K + R) i) (2 ^ (K + R)) fun i j h1 h2 e => pt_inj (bE (plB (K + R))) (K + R) hnew i j h1 h2 e
  have hcn := cntP_not (neP (wdL K R C) (wdL K R D)) (2 ^ (K + R))
  have hcg : cntP (fun i => !neP (wdL K R C) (wdL K R D) i) (2 ^ (K + R)) = cntP (fun i => decide (smT (fun j => C.getD j 0 * Xv (bE (plB (K + R))) (K + R) j (pt (bE (plB (K + R))) (K + R) i)) (2 ^ K) = smT (fun j => D.getD j 0 * Xv (bE (plB (K + R))) (K + R) j (pt (bE (plB (K + R))) (K + R) i)) (2 ^ K))) (2 ^ (K + R)) := by
    refine cntP_congr _ fun i hi => ?_
    unfold neP
    rw [wdL_get h hC hi, wdL_get h hD hi, hC, hD]
    unfold exF
    rw [hlB]
    rw [decide_not, Bool.not_not]
  rw [hcg] at hcn
  have e : apN (wdL K R C) (wdL K R D) = cntP (neP (wdL K R C) (wdL K R D)) (2 ^ (K + R)) := by
    unfold apN
    rw [wdL_length, wdL_length, Nat.max_self, Nat.min_self, Nat.sub_self, Nat.zero_add]
  omega
end Go.Proofs.YtbapldgapbmdkaaGreat.Sp

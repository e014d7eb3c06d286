/- TopSwitch: a mask at a point is the mask's table there, and bits in the tower's parts are the packed table there. Own text. -/
import Derived.Test.YtfmjodlcjaflfaaRows
import Derived.WalkKit
import Derived.ProofKit
import Derived.OpenShut
import Derived.ShutString
import Derived.ChangeOld
import Derived.Below
import Derived.SizedLaws
import Derived.Carry
import Derived.Test.YtfmjodlcjaflfaaMBa
import Derived.Test.YtfmjodlcjaflfaaMBb
import Derived.Test.YtfmjodlcjaflfaaMBc
import Derived.Test.YtfmjodlcjaflfaaMFa
set_option linter.unusedSimpArgs false
set_option linter.unusedVariables false
namespace Go.Proofs.Ytfmjodlcjaflfaa.Stated.topSwitch
open Go.Proofs.Ytfmjodlcjaflfaa.V.B Go.RowKit Go.Proofs.Ytfmjodlcjaflfaa.B
def Pure : Prop := ∀ (x0 : Int) (x1 : S25) (x2 : S44), ((Lit.int .i64 x0).wf = true) → (((∀ y0 ∈ x1.f0, True) ∧ x1.f0.length ≤ maxLen) ∧ ((∀ y0 ∈ x1.f1, ((Lit.int .u64 y0.f0).wf = true) ∧ ((Lit.int .u64 y0.f1).wf = true)) ∧ x1.f1.length ≤ maxLen) ∧ ((∀ y0 ∈ x1.f2, ((Lit.int .u64 y0.f0).wf = true) ∧ ((Lit.int .u64 y0.f1).wf = true)) ∧ x1.f2.length ≤ maxLen)) → (((∀ y0 ∈ x2.f0, ((Lit.int .u64 y0.f0).wf = true) ∧ ((Lit.int .u64 y0.f1).wf = true)) ∧ x2.f0.length ≤ maxLen) ∧ ((∀ y0 ∈ x2.f1, ((Lit.int .u64 y0.f0).wf = true) ∧ ((Lit.int .u64 y0.f1).wf = true)) ∧ x2.f1.length ≤ maxLen)) → ∃ k, steepletop_TopSwitch.f k x0 x1 x2 = some true
end Go.Proofs.Ytfmjodlcjaflfaa.Stated.topSwitch
namespace Go.Proofs.Ytfmjodlcjaflfaa.Sp
open Go.Proofs.Ytfmjodlcjaflfaa.V.B Go.RowKit Go.Proofs.Ytfmjodlcjaflfaa.B Go.Proofs.Ytfmjodlcjaflfaa.V.B.Ar Go.Proofs.Ytfmjodlcjaflfaa.V.B.Tw
set_option linter.unusedVariables false
set_option linter.unusedSimpArgs false
theorem Q_le_64 {n : Nat} (h : n ≤ 6) : Q n ≤ 2 ^ 64 := Q_mono h
theorem Q_dvd {n : Nat} : Q n = 2 ^ 2 ^ n := rfl
theorem two_pow_le_32 {n : Nat} (h : n ≤ 5) : 2 ^ n ≤ 32 := Nat.pow_le_pow_right (n := 2) (by decide) h
theorem w64_pred {l : Nat} (h : l + 1 ≤ 1000) : wrap64 (((l + 1 : Nat) : Int) - 1) = (l : Int) := by rw [w64_id (by omega) (by omega)]; omega
theorem Q_lt_64 {n : Nat} (h : n ≤ 5) : Q n < 2 ^ 64 := Nat.pow_lt_pow_right (by decide) (by have := two_pow_le_32 h; omega)
theorem halves_eq (k : Nat) {l : Nat} (hl : l ≤ 5) (x : Nat) (hx : x < 2 ^ 64) : tower_halves.f k ((l + 1 : Nat) : Int) (x : Int) = some (((x / Q l : Nat) : Int), ((x % Q l : Nat) : Int)) := by
  unfold tower_halves.f
  have h32 := two_pow_le_32 hl
  have hQ := Q_lt_64 hl
  have hm : IntKind.u64.wrap (((2 ^ 2 ^ l : Nat) : Int) - 1) = ((2 ^ 2 ^ l - 1 : Nat) : Int) := by
    have := Nat.two_pow_pos (2 ^ l)
    unfold Q at hQ
    generalize 2 ^ 2 ^ l = q at *
    rw [u64_id (by omega) (by omega)]; omega
  rw [w64_pred (by omega), if_pos (Int.natCast_nonneg _), shl_i64 l (by omega), if_pos (Int.natCast_nonneg _), shr_u64 x (2 ^ l) (by omega), shl_u64 (2 ^ l) (by omega), hm]
  rw [and_u64 x _ hx (by have := Nat.two_pow_pos (2 ^ l); unfold Q at hQ; omega), Nat.and_two_pow_sub_one_eq_mod]
  rfl
theorem join_eq (k : Nat) {l : Nat} (hl : l ≤ 5) (h x : Nat) (hh : h < Q l) (hx : x < Q l) : tower_join.f k ((l + 1 : Nat) : Int) (h : Int) (x : Int) = some ((h * Q l + x : Nat) : Int) := by
  unfold tower_join.f
  have h32 := two_pow_le_32 hl
  have hQ := Q_lt_64 hl
  have h6 : Q (l + 1) ≤ 2 ^ 64 := Q_le_64 (by omega)
  have hhx : h * Q l + Q l ≤ Q (l + 1) := by
    rw [Q_succ]
    have := Nat.mul_le_mul_right (Q l) hh
    rw [Nat.succ_mul] at this; exact this
  have hs : shl .u64 (h : Int) (((2 ^ l : Nat) : Int)) = ((h * Q l : Nat) : Int) := by
    unfold shl
    have h64 : IntKind.u64.bits = 64 := rfl
    rw [h64, Int.toNat_natCast, Nat.min_eq_left (by omega)]
    have hc : ((h : Int) * 2 ^ 2 ^ l) = ((h * Q l : Nat) : Int) := by unfold Q; simp
    rw [hc]
    have : h * Q l < 2 ^ 64 := by omega
    generalize h * Q l = z at *
    exact u64_id (by omega) (by omega)
  rw [w64_pred (by omega), if_pos (by omega), shl_u64 l (by omega), if_pos (Int.natCast_nonneg _), hs, or_u64 _ _ (by omega) (by omega)]
  congr 2
  unfold Q at *
  rw [Nat.mul_comm, ← Nat.two_pow_add_eq_or_of_lt hx]
theorem halves_ev {l : Nat} (hl : l ≤ 5) (x : Nat) (hx : x < 2 ^ 64) : Ev (fun k => tower_halves.f k ((l + 1 : Nat) : Int) (x : Int)) (((x / Q l : Nat) : Int), ((x % Q l : Nat) : Int)) := ⟨0, fun k _ => halves_eq k hl x hx⟩
theorem join_ev {l : Nat} (hl : l ≤ 5) (h x : Nat) (hh : h < Q l) (hx : x < Q l) : Ev (fun k => tower_join.f k ((l + 1 : Nat) : Int) (h : Int) (x : Int)) ((h * Q l + x : Nat) : Int) := ⟨0, fun k _ => join_eq k hl h x hh hx⟩
theorem mulX_ev : ∀ (l : Nat), l ≤ 6 → ∀ (x : Nat), x < Q l → Ev (fun k => tower_mulX.f k (l : Int) (x : Int)) ((val (gen l * of l x) : Nat) : Int) := by
  intro l
  induction l with
  | zero =>
    intro _ x hx
    refine Ev.step (fun k => by rw [tower_mulX.f]) (Ev.pos (by rfl) (Ev.ret' ?_))
    rw [gen_zero, one_mul, val_of 0 x hx]
  | succ l ih =>
    intro hl x hx
    have hx64 : x < 2 ^ 64 := Nat.lt_of_lt_of_le hx (Q_le_64 hl)
    have hd : x / Q l < Q l := Nat.div_lt_of_lt_mul (by rw [← Q_succ]; exact hx)
    have hm : x % Q l < Q l := Nat.mod_lt _ (Q_pos l)
    have hQ := Q_lt_64 (n := l) (by omega)
    refine Ev.step (fun k => by rw [tower_mulX.f]) (Ev.neg (by omega) (Ev.bnd (halves_ev (by omega) x hx64) ?_))
    simp only [w64_pred (show l + 1 ≤ 1000 by omega)]
    refine Ev.bnd (ih (by omega) _ hd) ?_
    have hv := val_lt (gen l * of l (x / Q l))
    simp only [xor_u64 _ _ (Nat.lt_trans hm hQ) (Nat.lt_trans hv hQ)]
    refine Ev.bnd (join_ev (by omega) _ _ (xor_lt hm hv) hd) (Ev.ret' ?_)
    congr 1
    rw [val_succ (gen (l + 1) * of (l + 1) x)]
    congr 1
    · congr 1
      have e : (gen (l + 1) * of (l + 1) x).1 = of l (x % Q l) + gen l * of l (x / Q l) := by
        rw [mul_fst, gen_fst, gen_snd, one_mul, zero_mul, one_mul, add_zero]; rfl
      rw [e, val_add, val_of _ _ hm]
    · have e : (gen (l + 1) * of (l + 1) x).2 = of l (x / Q l) := by
        rw [mul_snd, gen_fst, gen_snd, one_mul, zero_mul, zero_add]; rfl
      rw [e, val_of _ _ hd]
theorem karatsuba {n : Nat} (a1 a0 b1 b0 z : T n) : (a1 + a0) * (b1 + b0) + a1 * b1 + a0 * b0 + z = (a1 * b0 + a0 * b1) + z := by
  have : (a1 + a0) * (b1 + b0) + a1 * b1 + a0 * b0 = a1 * b0 + a0 * b1 := by
    simp only [mul_add, add_mul]
    have : ∀ p q r s : T n, p + q + (r + s) + p + s = q + r := fun p q r s => by
      rw [add_comm p q, add_assoc, add_assoc, add_assoc]
      rw [show p + (r + s + (p + s)) = (p + p) + (r + (s + s)) by simp only [add_assoc, add_left_comm, add_comm]]
      rw [add_self, add_self, zero_add, add_zero]
    rw [show a1 * b1 + a0 * b1 + (a1 * b0 + a0 * b0) = a1 * b1 + a0 * b1 + (a1 * b0 + a0 * b0) from rfl, this, add_comm]
  rw [this]
theorem mul_ev : ∀ (l : Nat), l ≤ 6 → ∀ (x y : Nat), x < Q l → y < Q l → Ev (fun k => tower_mul.f k (l : Int) (x : Int) (y : Int)) ((val (of l x * of l y) : Nat) : Int) := by
  intro l
  have hz : ∀ (l : Nat), l ≤ 6 → ∀ (x y : Nat), x < Q l → y < Q l → (l = 0 ∨ x = 0 ∨ y = 0) → Ev (fun k => tower_mul.j2 k (x : Int) (y : Int)) ((val (of l x * of l y) : Nat) : Int) := by
    intro l hl x y hx hy h
    have hQ := Q_le_64 hl
    refine Ev.step (fun k => by rw [tower_mul.j2]) (Ev.ret' ?_)
    rw [and_u64 x y (by omega) (by omega)]
    have hxy : x &&& y < 2 ^ 64 := Nat.and_lt_two_pow _ (by omega)
    rw [show (1 : Int) = ((1 : Nat) : Int) from rfl, and_u64 _ 1 hxy (by decide)]
    congr 1
    rcases h with rfl | rfl | rfl
    · have h1 : x < 2 := hx
      have h2 : y < 2 := hy
      rcases (by omega : x = 0 ∨ x = 1) with rfl | rfl <;> rcases (by omega : y = 0 ∨ y = 1) with rfl | rfl <;> rfl
    · rw [of_zero, zero_mul, val_zero]; simp
    · rw [of_zero, mul_zero, val_zero]; simp
  induction l with
  | zero =>
    intro hl x y hx hy
    exact Ev.step (fun k => by rw [tower_mul.f]) (Ev.pos (by rfl) (hz 0 hl x y hx hy (Or.inl rfl)))
  | succ l ih =>
    intro hl x y hx hy
    refine Ev.step (fun k => by rw [tower_mul.f]) (Ev.neg (by omega) ?_)
    by_cases hx0 : x = 0
    · exact Ev.pos (by omega) (hz (l + 1) hl x y hx hy (Or.inr (Or.inl hx0)))
    refine Ev.neg (by omega) ?_
    by_cases hy0 : y = 0
    · exact Ev.pos (by omega) (hz (l + 1) hl x y hx hy (Or.inr (Or.inr hy0)))
    refine Ev.neg (by omega) ?_
    have hQ := Q_lt_64 (n := l) (by omega)
    have hx64 : x < 2 ^ 64 := Nat.lt_of_lt_of_le hx (Q_le_64 hl)
    have hy64 : y < 2 ^ 64 := Nat.lt_of_lt_of_le hy (Q_le_64 hl)
    have hxd : x / Q l < Q l := Nat.div_lt_of_lt_mul (by rw [← Q_succ]; exact hx)
    have hxm : x % Q l < Q l := Nat.mod_lt _ (Q_pos l)
    have hyd : y / Q l < Q l := Nat.div_lt_of_lt_mul (by rw [← Q_succ]; exact hy)
    have hym : y % Q l < Q l := Nat.mod_lt _ (Q_pos l)
    have hl5 : l ≤ 5 := by omega
    refine Ev.bnd (halves_ev hl5 x hx64) (Ev.bnd (halves_ev hl5 y hy64) ?_)
    simp only [w64_pred (show l + 1 ≤ 1000 by omega)]
    refine Ev.bnd (ih (by omega) _ _ hxd hyd) (Ev.bnd (ih (by omega) _ _ hxm hym) ?_)
    simp only [xor_u64 _ _ (Nat.lt_trans hxd hQ) (Nat.lt_trans hxm hQ), xor_u64 _ _ (Nat.lt_trans hyd hQ) (Nat.lt_trans hym hQ)]
    refine Ev.bnd (ih (by omega) _ _ (xor_lt hxd hxm) (xor_lt hyd hym)) ?_
    have v1 := val_lt (of l (x / Q l) * of l (y / Q l))
    have v2 := val_lt (of l (x % Q l) * of l (y % Q l))
    have v3 := val_lt (of l (x / Q l ^^^ x % Q l) * of l (y / Q l ^^^ y % Q l))
    refine Ev.bnd (mulX_ev l (by omega) _ v1) ?_
    have v4 := val_lt (gen l * of l (val (of l (x / Q l) * of l (y / Q l))))
    simp only [xor_u64 _ _ (Nat.lt_trans v3 hQ) (Nat.lt_trans v1 hQ), xor_u64 _ _ (Nat.lt_trans (xor_lt v3 v1) hQ) (Nat.lt_trans v2 hQ), xor_u64 _ _ (Nat.lt_trans (xor_lt (xor_lt v3 v1) v2) hQ) (Nat.lt_trans v4 hQ), xor_u64 _ _ (Nat.lt_trans v2 hQ) (Nat.lt_trans v1 hQ)]
    refine Ev.bnd (join_ev (by omega) _ _ (xor_lt (xor_lt (xor_lt v3 v1) v2) v4) (xor_lt v2 v1)) (Ev.ret' ?_)
    congr 1
    rw [val_succ (of (l + 1) x * of (l + 1) y)]
    congr 1
    · congr 1
      rw [mul_fst, of_succ, of_succ, mk_fst, mk_snd, mk_fst, mk_snd, ← karatsuba, val_add, val_add, val_add, of_xor hxd hxm, of_xor hyd hym, of_val]
    · rw [mul_snd, of_succ, of_succ, mk_fst, mk_snd, mk_fst, mk_snd, val_add]
end Go.Proofs.Ytfmjodlcjaflfaa.Sp
namespace Go.Proofs.Ytfmjodlcjaflfaa.Sp
open Go.Proofs.Ytfmjodlcjaflfaa.V.B Go.RowKit Go.Proofs.Ytfmjodlcjaflfaa.B Go.Proofs.Ytfmjodlcjaflfaa.V.B.Ar Go.Proofs.Ytfmjodlcjaflfaa.V.B.Tw
set_option linter.unusedVariables false
set_option linter.unusedSimpArgs false
abbrev E := T 7
/-- The higher and the lower word. -/
def hi (x : E) : Int := ((val x.1 : Nat) : Int)
def lo (x : E) : Int := ((val x.2 : Nat) : Int)
def el (h l : Int) : E := mk (of 6 h.toNat) (of 6 l.toNat)
theorem hi_el {h l : Int} (h0 : 0 ≤ h) (h1 : h < 18446744073709551616) : hi (el h l) = h := by
  unfold hi el; rw [mk_fst, val_of 6 _ (by rw [Q_six]; omega)]; omega
theorem lo_el {h l : Int} (h0 : 0 ≤ l) (h1 : l < 18446744073709551616) : lo (el h l) = l := by
  unfold lo el; rw [mk_snd, val_of 6 _ (by rw [Q_six]; omega)]; omega
theorem hl_inj {x y : E} (h : hi x = hi y) (l : lo x = lo y) : x = y := by
  unfold hi lo at *; exact ext (val_inj (by omega)) (val_inj (by omega))
theorem hi_zero : hi 0 = 0 := by unfold hi; rw [zero_fst, val_zero]; rfl
theorem lo_zero : lo 0 = 0 := by unfold lo; rw [zero_snd, val_zero]; rfl
theorem hi_one : hi 1 = 0 := by unfold hi; rw [one_fst, val_zero]; rfl
theorem lo_one : lo 1 = 1 := by unfold lo; rw [one_snd, val_one]; rfl
theorem hi_bd (x : E) : 0 ≤ hi x ∧ hi x < 18446744073709551616 := by
  unfold hi; have := val_lt x.1; rw [Q_six] at this; omega
theorem lo_bd (x : E) : 0 ≤ lo x ∧ lo x < 18446744073709551616 := by
  unfold lo; have := val_lt x.2; rw [Q_six] at this; omega
theorem val_hl (x : E) : val x = (hi x).toNat * 18446744073709551616 + (lo x).toNat := by
  unfold hi lo; rw [val_succ, Q_six]; simp
theorem eq_zero_iff (x : E) : x = 0 ↔ hi x = 0 ∧ lo x = 0 := ⟨fun h => by rw [h]; exact ⟨hi_zero, lo_zero⟩, fun h => hl_inj (h.1.trans hi_zero.symm) (h.2.trans lo_zero.symm)⟩
theorem xor_hi (x y : E) : Go.bits .xor .u64 (hi x) (hi y) = hi (x + y) := by
  unfold hi; rw [xor_u64 _ _ (val_lt x.1) (val_lt y.1), add_fst, val_add]
theorem xor_lo (x y : E) : Go.bits .xor .u64 (lo x) (lo y) = lo (x + y) := by
  unfold lo; rw [xor_u64 _ _ (val_lt x.2) (val_lt y.2), add_snd, val_add]
/-- Of a level. -/
def InL (l : Nat) (x : E) : Prop := val x < Q l
instance (l : Nat) (x : E) : Decidable (InL l x) := by unfold InL; infer_instance
def OfS (L : Int) (x : E) : Prop := 0 ≤ L ∧ L ≤ 7 ∧ InL L.toNat x
instance (L : Int) (x : E) : Decidable (OfS L x) := by unfold OfS; infer_instance
theorem inL_seven (x : E) : InL 7 x := val_lt x
theorem inL_zero (l : Nat) : InL l 0 := by unfold InL; rw [val_zero]; exact Q_pos l
theorem inL_one (l : Nat) : InL l 1 := by unfold InL; rw [val_one]; exact Nat.lt_of_lt_of_le (by decide : 1 < Q 0) (Q_mono (Nat.zero_le _))
theorem inL_mono {l m : Nat} (h : l ≤ m) {x : E} (hx : InL l x) : InL m x := Nat.lt_of_lt_of_le hx (Q_mono h)
theorem inL_add {l : Nat} {x y : E} (hx : InL l x) (hy : InL l y) : InL l (x + y) := by
  unfold InL at *; rw [val_add]; exact xor_lt hx hy
theorem inL_mul {l : Nat} (hl : l ≤ 7) {x y : E} (hx : InL l x) (hy : InL l y) : InL l (x * y) := by
  unfold InL at *; have := val_mul_lt hl hx hy; rwa [of_val, of_val] at this
theorem inL_six {x : E} : InL 6 x ↔ hi x = 0 := by
  unfold InL; have h := val_hl x; have h1 := hi_bd x; have h2 := lo_bd x
  rw [Q_six, h]; constructor <;> intro g <;> omega
theorem inL_low {l : Nat} (hl : l ≤ 6) {x : E} : InL l x ↔ hi x = 0 ∧ (lo x).toNat < Q l := by
  constructor
  · intro h
    have h6 := inL_six.1 (inL_mono hl h)
    refine ⟨h6, ?_⟩
    unfold InL at h; rw [val_hl, h6] at h; simpa using h
  · rintro ⟨h1, h2⟩
    unfold InL; rw [val_hl, h1]; simpa using h2
/-- The program's element, the document's. -/
@[reducible] def toS (x : E) : S34 := ⟨hi x, lo x⟩
@[reducible] def toR (x : E) : S39 := ⟨hi x, lo x⟩
def WfS (e : S34) : Prop := (0 ≤ e.f0 ∧ e.f0 < 18446744073709551616) ∧ (0 ≤ e.f1 ∧ e.f1 < 18446744073709551616)
theorem of_ev (L : Int) (x : E) : Ev (fun k => octet_Of.f k L (toS x)) (decide (OfS L x)) := by
  unfold octet_Of.f
  by_cases h0 : L < 0
  · refine Ev.pos h0 (Ev.ret' ?_)
    symm; rw [decide_eq_false_iff_not]; rintro ⟨h, _⟩; omega
  refine Ev.neg h0 ?_
  by_cases h7 : L > 7
  · refine Ev.pos h7 (Ev.ret' ?_)
    symm; rw [decide_eq_false_iff_not]; rintro ⟨_, h, _⟩; omega
  refine Ev.neg h7 ?_
  obtain ⟨l, rfl⟩ := Int.eq_ofNat_of_zero_le (show 0 ≤ L by omega)
  have hS : OfS (l : Int) x ↔ InL l x := by
    unfold OfS; rw [Int.toNat_natCast]; exact ⟨fun h => h.2.2, fun h => ⟨by omega, by omega, h⟩⟩
  by_cases c7 : (l : Int) = 7
  · refine Ev.pos c7 (Ev.ret' ?_)
    have : l = 7 := by omega
    subst this
    symm; rw [decide_eq_true_eq, hS]; exact inL_seven x
  refine Ev.neg c7 ?_
  by_cases c6 : (l : Int) = 6
  · refine Ev.pos c6 (Ev.ret' ?_)
    have : l = 6 := by omega
    subst this
    rw [decide_eq_decide, hS]; exact inL_six.symm
  refine Ev.neg c6 ?_
  have hl5 : l ≤ 5 := by omega
  have hl := inL_low (l := l) (by omega) (x := x)
  by_cases c0 : hi x = 0
  · have h32 := two_pow_le_32 hl5
    refine Ev.pos c0 (Ev.pos (Int.natCast_nonneg _) (Ev.pos (by rw [shl_u64 l (by omega)]; exact Int.natCast_nonneg _) (Ev.ret' ?_)))
    show decide (shr .u64 (lo x) _ = 0) = _
    have hlo : lo x = (((lo x).toNat : Nat) : Int) := by have := lo_bd x; omega
    rw [shl_u64 l (by omega), hlo, shr_u64 _ (2 ^ l) (by omega)]
    rw [decide_eq_decide, hS, hl]
    have hq : (lo x).toNat / 2 ^ 2 ^ l = 0 ↔ (lo x).toNat < Q l := by
      rw [Nat.div_eq_zero_iff]; unfold Q
      have := Nat.two_pow_pos (2 ^ l)
      omega
    constructor
    · intro h; exact ⟨c0, hq.1 (by exact_mod_cast h)⟩
    · rintro ⟨_, h⟩; exact_mod_cast hq.2 h
  · refine Ev.neg c0 (Ev.ret' ?_)
    symm; rw [decide_eq_false_iff_not, hS, hl]; exact fun h => c0 h.1
theorem Add_ev (x y : E) : Ev (fun k => tower_Add.f k (toS x) (toS y)) (toS (x + y)) := ⟨0, fun k _ => by
  show some (⟨bits .xor .u64 (hi x) (hi y), bits .xor .u64 (lo x) (lo y)⟩ : S34) = _
  rw [xor_hi, xor_lo]⟩
theorem One_ev : Ev (fun k => tower_One.f k) (toS 1) := ⟨0, fun k _ => by unfold tower_One.f toS; rw [hi_one, lo_one]⟩
theorem toS_zero : toS 0 = z34 := by unfold toS; rw [hi_zero, lo_zero]; rfl
theorem Mul_out {L : Int} {x y : E} (h : ¬ (OfS L x ∧ OfS L y)) : Ev (fun k => tower_Mul.f k L (toS x) (toS y)) (toS 0) := by
  rw [toS_zero]
  unfold tower_Mul.f
  refine Ev.bnd (of_ev L x) ?_
  by_cases c : OfS L x
  · rw [decide_eq_true c]
    refine Ev.neg (by decide) (Ev.bnd (of_ev L y) ?_)
    rw [decide_eq_false (fun g => h ⟨c, g⟩)]
    exact Ev.pos rfl (Ev.ret _)
  · rw [decide_eq_false c]
    exact Ev.pos rfl (Ev.ret _)
theorem Mul_ev {l : Nat} (hl : l ≤ 7) {x y : E} (hx : InL l x) (hy : InL l y) : Ev (fun k => tower_Mul.f k (l : Int) (toS x) (toS y)) (toS (x * y)) := by
  unfold tower_Mul.f
  have hS : ∀ z, InL l z → OfS (l : Int) z := fun z hz => ⟨by omega, by omega, by rw [Int.toNat_natCast]; exact hz⟩
  refine Ev.bnd (of_ev (l : Int) x) ?_
  rw [decide_eq_true (hS x hx)]
  refine Ev.neg (by decide) (Ev.bnd (of_ev (l : Int) y) ?_)
  rw [decide_eq_true (hS y hy)]
  refine Ev.neg (by decide) ?_
  by_cases c : l ≤ 6
  · refine Ev.pos (by omega) ?_
    have ex := (inL_low c).1 hx
    have ey := (inL_low c).1 hy
    have e1 : lo x = (((lo x).toNat : Nat) : Int) := by have := lo_bd x; omega
    have e2 : lo y = (((lo y).toNat : Nat) : Int) := by have := lo_bd y; omega
    have ev := mul_ev l c (lo x).toNat (lo y).toNat ex.2 ey.2
    rw [← e1, ← e2] at ev
    refine Ev.bnd ev (Ev.ret' ?_)
    unfold toS
    have hz := (inL_low c).1 (inL_mul hl hx hy)
    have e3 : lo (x * y) = (((lo (x * y)).toNat : Nat) : Int) := by have := lo_bd (x * y); omega
    rw [hz.1, e3]
    congr 2
    have vx : val x = (lo x).toNat := by rw [val_hl, ex.1]; simp
    have vy : val y = (lo y).toNat := by rw [val_hl, ey.1]; simp
    have vz : val (x * y) = (lo (x * y)).toNat := by rw [val_hl, hz.1]; simp
    rw [← vz, ← vx, ← vy, ← val_mul_level hl hx hy, of_val, of_val]
  · have : l = 7 := by omega
    subst this
    refine Ev.neg (by decide) ?_
    have v1 := val_lt x.1
    have v2 := val_lt x.2
    have v3 := val_lt y.1
    have v4 := val_lt y.2
    have m1 := mul_ev 6 (by decide) _ _ v1 v3
    have m2 := mul_ev 6 (by decide) _ _ v2 v4
    have m3 := mul_ev 6 (by decide) _ _ (xor_lt v1 v2) (xor_lt v3 v4)
    rw [of_val, of_val] at m1 m2
    rw [← val_add, ← val_add, of_val, of_val] at m3
    have m4 := mulX_ev 6 (by decide) _ (val_lt (x.1 * y.1))
    rw [of_val] at m4
    refine Ev.bnd m1 (Ev.bnd m2 ?_)
    have e1 : Go.bits .xor .u64 (hi x) (lo x) = ((val (x.1 + x.2) : Nat) : Int) := by unfold hi lo; rw [xor_u64 _ _ v1 v2, val_add]
    have e2 : Go.bits .xor .u64 (hi y) (lo y) = ((val (y.1 + y.2) : Nat) : Int) := by unfold hi lo; rw [xor_u64 _ _ v3 v4, val_add]
    simp only [toS, e1, e2]
    refine Ev.bnd m3 (Ev.bnd m4 (Ev.ret' ?_))
    rw [xor_u64 _ _ (val_lt _) (val_lt _), ← val_add, xor_u64 _ _ (val_lt _) (val_lt _), ← val_add, xor_u64 _ _ (val_lt _) (val_lt _), ← val_add, xor_u64 _ _ (val_lt _) (val_lt _), ← val_add, karatsuba]
    rfl
theorem toS_f0 (x : E) : (toS x).f0 = hi x := rfl
theorem toS_f1 (x : E) : (toS x).f1 = lo x := rfl
theorem toR_f0 (x : E) : (toR x).f0 = hi x := rfl
theorem toR_f1 (x : E) : (toR x).f1 = lo x := rfl
theorem toR_zero : toR 0 = z39 := by unfold toR; rw [hi_zero, lo_zero]; rfl
theorem toS_el (e : S34) (h : WfS e) : toS (el e.f0 e.f1) = e := by unfold toS; rw [hi_el h.1.1 h.1.2, lo_el h.2.1 h.2.2]
theorem toS_inj {x y : E} (h : toS x = toS y) : x = y := by
  unfold toS at h; injection h with h1 h2; exact hl_inj h1 h2
theorem wf_of {e : S34} (h : (Lit.int .u64 e.f0).wf = true ∧ (Lit.int .u64 e.f1).wf = true) : WfS e := ⟨wf_u64 h.1, wf_u64 h.2⟩
/-- A list that came in is a list of elements. -/
theorem list_of (l : List S34) (h : ∀ e ∈ l, ((Lit.int .u64 e.f0).wf = true) ∧ ((Lit.int .u64 e.f1).wf = true)) : ∃ X : List E, l = X.map toS := by
  refine ⟨l.map fun e => el e.f0 e.f1, ?_⟩
  rw [List.map_map]
  conv => lhs; rw [← List.map_id l]
  apply List.map_congr_left
  intro e he
  exact (toS_el e (wf_of (h e he))).symm
theorem elem_of (e : S34) (h : ((Lit.int .u64 e.f0).wf = true) ∧ ((Lit.int .u64 e.f1).wf = true)) : ∃ x : E, e = toS x := ⟨_, (toS_el e (wf_of h)).symm⟩
theorem rdS (X : List E) (i : Nat) : rd34 (X.map toS) (i : Int) = toS (X.getD i 0) := by
  unfold rd34; rw [Int.toNat_natCast, ← toS_zero, List.getD_eq_getElem?_getD, List.getD_eq_getElem?_getD, List.getElem?_map]
  cases X[i]? <;> rfl
theorem rdR (X : List E) (i : Nat) : rd39 (X.map toR) (i : Int) = toR (X.getD i 0) := by
  unfold rd39; rw [Int.toNat_natCast, ← toR_zero, List.getD_eq_getElem?_getD, List.getD_eq_getElem?_getD, List.getElem?_map]
  cases X[i]? <;> rfl
end Go.Proofs.Ytfmjodlcjaflfaa.Sp
namespace Go.Proofs.Ytfmjodlcjaflfaa.Sp
open Go.Proofs.Ytfmjodlcjaflfaa.V.B Go.RowKit Go.Proofs.Ytfmjodlcjaflfaa.B Go.Proofs.Ytfmjodlcjaflfaa.V.B.Ar Go.Proofs.Ytfmjodlcjaflfaa.V.B.Tw
set_option linter.unusedVariables false
set_option linter.unusedSimpArgs false
/-- Is there such a level? -/
def LvS (L : Int) : Prop := 0 ≤ L ∧ L ≤ 7
instance (L : Int) : Decidable (LvS L) := by unfold LvS; infer_instance
theorem wide_out {L : Int} (h : ¬ LvS L) : Ev (fun k => octet_Wide.f k L) 0 := by
  unfold octet_Wide.f
  by_cases h0 : L < 0
  · exact Ev.pos h0 (Ev.ret _)
  · exact Ev.neg h0 (Ev.pos (by unfold LvS at h; omega) (Ev.ret _))
theorem wide_in {L : Int} (h : LvS L) : ∃ v, v ≠ 0 ∧ Ev (fun k => octet_Wide.f k L) v := by
  obtain ⟨h0, h7⟩ := h
  obtain ⟨l, rfl⟩ := Int.eq_ofNat_of_zero_le h0
  have hstep : ∀ {g : Nat → Option Int} {v : Int}, Ev g v → Ev (fun k => if (l : Int) < 0 then some 0 else if (l : Int) > 7 then some 0 else g k) v := fun hv => Ev.neg (by omega) (Ev.neg (by omega) hv)
  by_cases c : (l : Int) ≤ 3
  · exact ⟨1, by decide, hstep (Ev.pos c (Ev.ret _))⟩
  · have e : wrap64 ((l : Int) - 3) = ((l - 3 : Nat) : Int) := by rw [w64_id (by omega) (by omega)]; omega
    refine ⟨((2 ^ (l - 3) : Nat) : Int), by have := Nat.two_pow_pos (l - 3); omega, hstep (Ev.neg c ?_)⟩
    rw [e]
    exact Ev.pos (Int.natCast_nonneg _) (Ev.ret' (shl_i64 (l - 3) (by omega)))
theorem rdL (l : Nat) (h : l ≤ 7) : rdI ([1, 2, 4, 8, 16, 32, 64, 128] : List Int) (l : Int) = ((2 ^ l : Nat) : Int) := by
  have : ∀ m, m ≤ 7 → rdI ([1, 2, 4, 8, 16, 32, 64, 128] : List Int) ((m : Nat) : Int) = ((2 ^ m : Nat) : Int) := by decide
  exact this l h
theorem and_one_u64 (a n : Nat) (ha : a < 2 ^ 64) (hn : n ≤ 64) : Go.bits .and .u64 (shr .u64 (a : Int) (n : Int)) 1 = if a.testBit n then 1 else 0 := by
  rw [shr_u64 a n hn]
  have hd : a / 2 ^ n < 2 ^ 64 := Nat.lt_of_le_of_lt (Nat.div_le_self _ _) ha
  rw [show (1 : Int) = ((1 : Nat) : Int) from rfl, and_u64 _ 1 hd (by decide), Nat.and_one_is_mod, Nat.testBit_eq_decide_div_mod_eq]
  by_cases c : a / 2 ^ n % 2 = 1
  · rw [c]; simp
  · rw [show a / 2 ^ n % 2 = 0 by omega]; simp
/-- All of a level. -/
def AllS (L : Int) (X : List E) : Prop := ∀ x ∈ X, OfS L x
instance (L : Int) (X : List E) : Decidable (AllS L X) := by unfold AllS; infer_instance
theorem allS_drop {L : Int} {X : List E} {i : Nat} (h : i < X.length) : AllS L (X.drop i) ↔ OfS L (X.getD i 0) ∧ AllS L (X.drop (i + 1)) := by
  rw [List.drop_eq_getElem_cons h]
  have : X.getD i 0 = X[i] := by rw [List.getD_eq_getElem?_getD, List.getElem?_eq_getElem h]; rfl
  rw [this]
  exact List.forall_mem_cons
theorem map_take_succ {α β : Type} (f : α → β) (X : List α) (d : α) (i : Nat) (h : i < X.length) : (X.take (i + 1)).map f = (X.take i).map f ++ [f (X.getD i d)] := by
  rw [List.take_succ_eq_append_getElem h, List.map_append]
  have : X.getD i d = X[i] := by rw [List.getD_eq_getElem?_getD, List.getElem?_eq_getElem h]; rfl
  rw [this]; rfl
theorem Ref_l0 (X : List E) (hX : X.length ≤ 1000000) : ∀ (d i : Nat), i + d = X.length → Ev (fun k => steeplelaw01_Ref.l3 k (X.map toS) (i : Int) ((X.take i).map toR)) (X.map toR) := by
  intro d
  induction d with
  | zero =>
    intro i hi
    refine Ev.step (fun k => by rw [steeplelaw01_Ref.l3]) (Ev.neg (by rw [List.length_map]; omega) (Ev.ret' ?_))
    rw [List.take_of_length_le (by omega)]
  | succ d ih =>
    intro i hi
    have hi' : i < X.length := by omega
    refine Ev.step (fun k => by rw [steeplelaw01_Ref.l3]) (Ev.pos (by rw [List.length_map]; omega) (Ev.pos (Int.natCast_nonneg _) (Ev.pos (by rw [List.length_map]; omega) (Ev.pos (by rw [List.length_map, List.length_take, List.length_singleton]; omega) ?_))))
    simp only [rdS, toS_f0, toS_f1, w64_succ hi' (show X.length ≤ 4611686018427387904 by omega)]
    have hih := ih (i + 1) (by omega)
    rw [map_take_succ toR X 0 i hi'] at hih
    exact hih
theorem Ref_ev (X : List E) (hX : X.length ≤ 1000000) : Ev (fun k => steeplelaw01_Ref.f k (X.map toS)) (X.map toR) := Ref_l0 X hX X.length 0 (by omega)
/-- The same element? as the program asks. -/
theorem eq_pair (x y : E) : (hi x == hi y && (lo x == lo y)) = decide (x = y) := by
  rw [Bool.eq_iff_iff, Bool.and_eq_true, beq_iff_eq, beq_iff_eq, decide_eq_true_eq]
  exact ⟨fun h => hl_inj h.1 h.2, fun h => by rw [h]; exact ⟨rfl, rfl⟩⟩
theorem eq_none (x : E) : (hi x == 0 && (lo x == 0)) = decide (x = 0) := by
  rw [← eq_pair, hi_zero, lo_zero]
end Go.Proofs.Ytfmjodlcjaflfaa.Sp
namespace Go.Proofs.Ytfmjodlcjaflfaa.Sp
open Go.Proofs.Ytfmjodlcjaflfaa.V.B Go.RowKit Go.Proofs.Ytfmjodlcjaflfaa.B Go.Proofs.Ytfmjodlcjaflfaa.V.B.Ar Go.Proofs.Ytfmjodlcjaflfaa.V.B.Tw
set_option linter.unusedVariables false
set_option linter.unusedSimpArgs false
theorem tw_lt {j v : Nat} (hj : j ≤ 6) (hv : v < Q 6) : tw 6 j v < Q 6 := by rw [tw_eq hj hv]; exact val_lt _
theorem shlw (a w : Nat) (hw : w ≤ 64) : shl .u64 (a : Int) (w : Int) = (((a * 2 ^ w) % 2 ^ 64 : Nat) : Int) := by
  unfold shl
  have h64 : IntKind.u64.bits = 64 := rfl
  rw [h64, Int.toNat_natCast, Nat.min_eq_left hw]
  have hc : ((a : Int) * 2 ^ w) = ((a * 2 ^ w : Nat) : Int) := by simp
  rw [hc]
  simp [IntKind.wrap, IntKind.bits, IntKind.signed]
/-- The generator of a level, as an element of the greatest one. -/
def gE (m : Nat) : E := of 7 (val (gen m))
theorem tw_hi {j : Nat} (hj : j ≤ 6) (x : T 6) : tw 6 j (val x) = val (of 6 (val (gen j)) * x) := by rw [tw_eq hj (val_lt x), of_val]
/-- The element with one bit. -/
def bitE (n : Nat) : E := of 7 (2 ^ n)
theorem bitE_hl {n : Nat} (hn : n < 128) : hi (bitE n) = (if n < 64 then 0 else ((2 ^ (n - 64) : Nat) : Int)) ∧ lo (bitE n) = (if n < 64 then ((2 ^ n : Nat) : Int) else 0) := by
  unfold bitE hi lo
  rw [of_succ, mk_fst, mk_snd]
  have hQ : Q 6 = 2 ^ 64 := rfl
  by_cases c : n < 64
  · have h1 : 2 ^ n < Q 6 := by rw [hQ]; exact Nat.pow_lt_pow_right (by decide) c
    rw [if_pos c, if_pos c, Nat.div_eq_of_lt h1, Nat.mod_eq_of_lt h1, val_of _ _ h1, of_zero, val_zero]; exact ⟨rfl, rfl⟩
  · have e : 2 ^ n = 2 ^ (n - 64) * Q 6 + 0 := by rw [hQ, ← Nat.pow_add, Nat.add_zero]; congr 1; omega
    have h2 : 2 ^ (n - 64) < Q 6 := by rw [hQ]; exact Nat.pow_lt_pow_right (by decide) (by omega)
    rw [if_neg c, if_neg c, e, join_div (Q_pos 6), join_mod (Q_pos 6), val_of _ _ h2, of_zero, val_zero]; exact ⟨rfl, rfl⟩
theorem refBit_ev (n : Nat) (hn : n < 128) : Ev (fun k => steepleref02_Bit.f k (n : Int)) (toR (bitE n)) := by
  obtain ⟨h1, h2⟩ := bitE_hl hn
  unfold steepleref02_Bit.f toR
  rw [h1, h2]
  refine Ev.neg (by omega) (Ev.neg (by omega) ?_)
  by_cases c : n < 64
  · rw [if_pos c, if_pos c]
    refine Ev.neg (by omega) ?_
    rw [u64_id (by omega) (by omega)]
    exact Ev.pos (Int.natCast_nonneg _) (Ev.ret' (by rw [shl_u64 n (by omega)]))
  · rw [if_neg c, if_neg c]
    refine Ev.pos (by omega) ?_
    have e : IntKind.u64.wrap (wrap64 ((n : Int) - 64)) = ((n - 64 : Nat) : Int) := by
      rw [w64_id (by omega) (by omega), u64_id (by omega) (by omega)]; omega
    rw [e]
    exact Ev.pos (Int.natCast_nonneg _) (Ev.ret' (by rw [shl_u64 (n - 64) (by omega)]))
theorem and_bit_ne (x n : Nat) : (x &&& 2 ^ n ≠ 0) ↔ x.testBit n = true := by
  constructor
  · intro h
    cases hb : x.testBit n with
    | true => rfl
    | false =>
      exfalso; apply h
      apply Nat.eq_of_testBit_eq
      intro i
      rw [Nat.testBit_and, Nat.zero_testBit]
      by_cases e : i = n
      · subst e; rw [hb, Bool.false_and]
      · rw [Nat.testBit_two_pow_of_ne (by omega), Bool.and_false]
  · intro h e
    have := congrArg (fun z => z.testBit n) e
    simp only [Nat.testBit_and, Nat.testBit_two_pow_self, Bool.and_true, Nat.zero_testBit] at this
    rw [h] at this; cases this
theorem hasBits (x : E) (n : Nat) (hn : n < 128) : ((Go.bits .or .u64 (Go.bits .and .u64 (lo x) (lo (bitE n))) (Go.bits .and .u64 (hi x) (hi (bitE n)))) != 0) = (val x).testBit n := by
  obtain ⟨h1, h2⟩ := bitE_hl hn
  have hx1 := val_lt x.1
  have hx2 := val_lt x.2
  have hQ : Q 6 = 2 ^ 64 := rfl
  rw [hQ] at hx1 hx2
  have hv : val x = 2 ^ 64 * val x.1 + val x.2 := by rw [val_succ, hQ, Nat.mul_comm]
  rw [h1, h2, hv]
  unfold hi lo
  by_cases c : n < 64
  · rw [if_pos c, if_pos c]
    have hp : 2 ^ n < 2 ^ 64 := Nat.pow_lt_pow_right (by decide) c
    have z : (0 : Int) = ((0 : Nat) : Int) := rfl
    rw [z, and_u64 _ _ hx2 hp, and_u64 _ _ hx1 (by decide), or_u64 _ _ (Nat.and_lt_two_pow _ hp) (Nat.and_lt_two_pow _ (by decide)), Nat.and_zero, Nat.or_zero]
    rw [Nat.testBit_two_pow_mul_add _ hx2, if_pos c, Bool.eq_iff_iff, ← and_bit_ne, bne_iff_ne]
    exact ⟨fun h e => h (by rw [e]), fun h e => h (by exact_mod_cast e)⟩
  · rw [if_neg c, if_neg c]
    have hp : 2 ^ (n - 64) < 2 ^ 64 := Nat.pow_lt_pow_right (by decide) (by omega)
    have z : (0 : Int) = ((0 : Nat) : Int) := rfl
    rw [z, and_u64 _ _ hx1 hp, and_u64 _ _ hx2 (by decide), or_u64 _ _ (Nat.and_lt_two_pow _ (by decide)) (Nat.and_lt_two_pow _ hp), Nat.and_zero, Nat.zero_or]
    rw [Nat.testBit_two_pow_mul_add _ hx2, if_neg c, Bool.eq_iff_iff, ← and_bit_ne, bne_iff_ne]
    exact ⟨fun h e => h (by rw [e]), fun h e => h (by exact_mod_cast e)⟩
theorem Has_ev (x : E) (n : Nat) (hn : n < 128) : Ev (fun k => steepleref02_Has.f k (toR x) (n : Int)) ((val x).testBit n) := by
  unfold steepleref02_Has.f
  refine Ev.bnd (refBit_ev n hn) (Ev.ret' (hasBits x n hn))
theorem and_one (n j : Nat) (hn : n < 2 ^ 63) (hj : j ≤ 64) : Go.bits .and .i64 (shr .i64 (n : Int) (j : Int)) 1 = (((n / 2 ^ j) % 2 : Nat) : Int) := by
  rw [shr_i64 n j hj]
  have := and_i64_mask (n / 2 ^ j) 1 (Nat.lt_of_le_of_lt (Nat.div_le_self _ _) hn) (by decide)
  simpa using this
end Go.Proofs.Ytfmjodlcjaflfaa.Sp
namespace Go.Proofs.Ytfmjodlcjaflfaa.Sp
open Go.Proofs.Ytfmjodlcjaflfaa.V.B Go.RowKit Go.Proofs.Ytfmjodlcjaflfaa.B Go.Proofs.Ytfmjodlcjaflfaa.V.B.Ar Go.Proofs.Ytfmjodlcjaflfaa.V.B.Tw
set_option linter.unusedVariables false
set_option linter.unusedSimpArgs false
/-- Sums. -/
def sumN (f : Nat → E) : Nat → E
  | 0 => 0
  | n + 1 => sumN f n + f n
theorem sumN_congr {f g : Nat → E} : ∀ n, (∀ i, i < n → f i = g i) → sumN f n = sumN g n
  | 0, _ => rfl
  | n + 1, h => by rw [sumN, sumN, sumN_congr n (fun i hi => h i (by omega)), h n (by omega)]
theorem sumN_add (f g : Nat → E) : ∀ n, sumN (fun i => f i + g i) n = sumN f n + sumN g n
  | 0 => (add_zero _).symm
  | n + 1 => by
    rw [sumN, sumN, sumN, sumN_add f g n]
    simp only [add_assoc, add_left_comm]
theorem sumN_mul (c : E) (f : Nat → E) : ∀ n, sumN (fun i => c * f i) n = c * sumN f n
  | 0 => (mul_zero _).symm
  | n + 1 => by rw [sumN, sumN, sumN_mul c f n, mul_add]
theorem sumN_zero : ∀ n, sumN (fun _ => (0 : E)) n = 0
  | 0 => rfl
  | n + 1 => by rw [sumN, sumN_zero n, add_zero]
theorem sumN_double (f : Nat → E) : ∀ n, sumN f (2 * n) = sumN (fun i => f (2 * i) + f (2 * i + 1)) n
  | 0 => rfl
  | n + 1 => by
    rw [show 2 * (n + 1) = 2 * n + 1 + 1 by omega, sumN, sumN, sumN, sumN_double f n, add_assoc]
theorem sumN_split (f : Nat → E) (m : Nat) : ∀ n, sumN f (m + n) = sumN f m + sumN (fun i => f (m + i)) n
  | 0 => (add_zero _).symm
  | n + 1 => by rw [← Nat.add_assoc, sumN, sumN, sumN_split f m n, add_assoc]
/-- A corner's weight at a point. -/
def weight : List E → Nat → E
  | [], _ => 1
  | p :: ps, i => (if i % 2 = 1 then p else 1 + p) * weight ps (i / 2)
/-- A table's value at a point. -/
def value (X P : List E) : E := sumN (fun i => X.getD i 0 * weight P i) X.length
/-- A table bound in its first variable. -/
def first (r : E) (X : List E) : List E := (List.range (X.length / 2)).map fun i => X.getD (2 * i) 0 + r * (X.getD (2 * i) 0 + X.getD (2 * i + 1) 0)
def firsts : List E → List E → List E
  | [], X => X
  | r :: rs, X => firsts rs (first r X)
theorem first_length (r : E) (X : List E) : (first r X).length = X.length / 2 := by simp [first]
theorem first_getD (r : E) (X : List E) (i : Nat) (h : i < X.length / 2) : (first r X).getD i 0 = X.getD (2 * i) 0 + r * (X.getD (2 * i) 0 + X.getD (2 * i + 1) 0) := by
  rw [List.getD_eq_getElem?_getD]; simp [first, h]
theorem between_eq (a b r : E) : a + r * (a + b) = (1 + r) * a + r * b := by
  rw [add_mul, one_mul, mul_add, add_assoc]
theorem value_first (X : List E) (r : E) (P : List E) (h : X.length = 2 * (X.length / 2)) : value X (r :: P) = value (first r X) P := by
  unfold value
  rw [first_length]
  conv => lhs; rw [h]
  rw [sumN_double]
  apply sumN_congr
  intro i hi
  rw [first_getD r X i hi, weight, weight, if_neg (by omega), if_pos (by omega), show 2 * i / 2 = i by omega, show (2 * i + 1) / 2 = i by omega, between_eq]
  rw [← mul_assoc, ← mul_assoc, mul_comm (X.getD (2 * i) 0), mul_comm (X.getD (2 * i + 1) 0), ← add_mul]
theorem pow_len {X : List E} {k : Nat} (h : X.length = 2 ^ (k + 1)) : X.length = 2 * (X.length / 2) := by rw [h, Nat.pow_succ]; omega
theorem firsts_length : ∀ (R X : List E) (k : Nat), X.length = 2 ^ k → R.length ≤ k → (firsts R X).length = 2 ^ (k - R.length)
  | [], X, k, h, _ => by rw [firsts, h]; rfl
  | r :: rs, X, k, h, hk => by
    rw [List.length_cons] at hk
    obtain ⟨k', rfl⟩ : ∃ k', k = k' + 1 := ⟨k - 1, by omega⟩
    rw [firsts, firsts_length rs (first r X) k' (by rw [first_length, h, Nat.pow_succ]; omega) (by omega), List.length_cons]
    congr 1; omega
theorem value_firsts : ∀ (R X P : List E) (k : Nat), X.length = 2 ^ k → R.length ≤ k → value X (R ++ P) = value (firsts R X) P
  | [], X, P, k, _, _ => rfl
  | r :: rs, X, P, k, h, hk => by
    rw [List.length_cons] at hk
    obtain ⟨k', rfl⟩ : ∃ k', k = k' + 1 := ⟨k - 1, by omega⟩
    rw [List.cons_append, value_first X r (rs ++ P) (pow_len h), firsts]
    exact value_firsts rs (first r X) P k' (by rw [first_length, h, Nat.pow_succ]; omega) (by omega)
theorem value_nil {X : List E} (h : X.length = 1) : value X [] = X.getD 0 0 := by
  unfold value; rw [h, sumN, sumN, zero_add, weight, mul_one]
theorem value_eq (X P : List E) (h : X.length = 2 ^ P.length) : value X P = (firsts P X).getD 0 0 := by
  have := value_firsts P X [] P.length h (Nat.le_refl _)
  rw [List.append_nil] at this
  rw [this, value_nil (by rw [firsts_length P X P.length h (Nat.le_refl _), Nat.sub_self, Nat.pow_zero])]

/-- k of 2^k, as both tell it. -/
theorem map_set {α β : Type} (f : α → β) (X : List α) (i : Nat) (x : α) : (X.map f).set i (f x) = (X.set i x).map f := by rw [List.map_set]
theorem toS_mk (x : E) : (⟨hi x, lo x⟩ : S34) = toS x := rfl
theorem toR_mk (x : E) : (⟨hi x, lo x⟩ : S39) = toR x := rfl
theorem getD_set_self {X : List E} {i : Nat} (h : i < X.length) (x : E) : (X.set i x).getD i 0 = x := by
  rw [List.getD_eq_getElem?_getD, List.getElem?_set_self h]; rfl
theorem getD_set_ne {X : List E} {i j : Nat} (h : i ≠ j) (x : E) : (X.set i x).getD j 0 = X.getD j 0 := by
  rw [List.getD_eq_getElem?_getD, List.getD_eq_getElem?_getD, List.getElem?_set_ne h]
theorem ext_getD {X Y : List E} (hl : X.length = Y.length) (h : ∀ i, i < X.length → X.getD i 0 = Y.getD i 0) : X = Y := by
  apply List.ext_getElem hl
  intro j h1 h2
  have := h j h1
  simpa [List.getD_eq_getElem?_getD, h1, h2] using this
theorem getD_take {X : List E} {i m : Nat} (h : i < m) : (X.take m).getD i 0 = X.getD i 0 := by
  rw [List.getD_eq_getElem?_getD, List.getD_eq_getElem?_getD, List.getElem?_take_of_lt h]
theorem allS_getD {l : Nat} {X : List E} (h : AllS (l : Int) X) (i : Nat) : InL l (X.getD i 0) := by
  rw [List.getD_eq_getElem?_getD]
  by_cases c : i < X.length
  · rw [List.getElem?_eq_getElem c]
    have := (h _ (List.getElem_mem c)).2.2
    rw [Int.toNat_natCast] at this; exact this
  · rw [List.getElem?_eq_none (by omega)]; exact inL_zero l
theorem allS_first {l : Nat} (hl : l ≤ 7) {X : List E} {r : E} (hX : AllS (l : Int) X) (hr : InL l r) : AllS (l : Int) (first r X) := by
  intro x hx
  unfold first at hx
  rw [List.mem_map] at hx
  obtain ⟨i, _, rfl⟩ := hx
  refine ⟨by omega, by omega, ?_⟩
  rw [Int.toNat_natCast]
  exact inL_add (allS_getD hX _) (inL_mul hl hr (inL_add (allS_getD hX _) (allS_getD hX _)))
theorem half_len (n : Nat) (h : n ≤ 1000000) : wrap64 ((n : Int) / 2) = ((n / 2 : Nat) : Int) := by rw [w64_id (by omega) (by omega)]; omega
theorem w64_dbl {i : Nat} (h : i ≤ 1000000) : wrap64 (2 * (i : Int)) = ((2 * i : Nat) : Int) := by rw [w64_id (by omega) (by omega)]; omega
end Go.Proofs.Ytfmjodlcjaflfaa.Sp
namespace Go.Proofs.Ytfmjodlcjaflfaa.Sp
open Go.Proofs.Ytfmjodlcjaflfaa.V.B Go.RowKit Go.Proofs.Ytfmjodlcjaflfaa.B Go.Proofs.Ytfmjodlcjaflfaa.V.B.Ar Go.Proofs.Ytfmjodlcjaflfaa.V.B.Tw
set_option linter.unusedVariables false
/-- The pair of x and y: y beside each bit that x has. -/
def pick (b : Bool) (y : E) : E := if b then y else 0
theorem pick_true (y : E) : pick true y = y := if_pos rfl
theorem pick_false (y : E) : pick false y = 0 := if_neg Bool.false_ne_true
def pairX (n : Nat) (x y : E) : List E := (List.range n).map fun i => pick ((val x).testBit i) y
theorem pairX_length (n : Nat) (x y : E) : (pairX n x y).length = n := by simp [pairX]
theorem getD_rangeM {α : Type} (f : Nat → α) (d : α) (n i : Nat) (h : i < n) : ((List.range n).map f).getD i d = f i := by
  rw [List.getD_eq_getElem?_getD, List.getElem?_map, List.getElem?_range h]; rfl
theorem range_succM {α : Type} (f : Nat → α) (n : Nat) : (List.range (n + 1)).map f = (List.range n).map f ++ [f n] := by
  rw [List.range_succ, List.map_append]; rfl
theorem pairX_getD (n : Nat) (x y : E) (i : Nat) (h : i < n) : (pairX n x y).getD i 0 = pick ((val x).testBit i) y := getD_rangeM (fun i => pick ((val x).testBit i) y) 0 n i h
theorem pairX_succ (n : Nat) (x y : E) : pairX (n + 1) x y = pairX n x y ++ [pick ((val x).testBit n) y] := range_succM _ n
theorem w128 {l : Nat} (hl : l ≤ 7) : 2 ^ l ≤ 128 := Nat.pow_le_pow_right (n := 2) (by decide) hl
theorem lv_of {L : Int} {x : E} (h : OfS L x) : LvS L := ⟨h.1, h.2.1⟩
theorem rep_zero (n : Nat) : List.replicate n z34 = (List.replicate n (0 : E)).map toS := by rw [List.map_replicate, toS_zero]
def leftO (L : Int) (x : E) : List E := if OfS L x then pairX (2 ^ L.toNat) x 1 else []
def rightO (L : Int) (x : E) : List E := if OfS L x then pairX (2 ^ L.toNat) 1 x else []
theorem one_bit (i : Nat) : (val (1 : E)).testBit i = decide (i = 0) := by
  rw [val_one, show (1 : Nat) = 2 ^ 0 from rfl, Nat.testBit_two_pow]
  simp [eq_comm]
theorem pairX_one (n : Nat) (x : E) (hn : 0 < n) : pairX n 1 x = (List.replicate n (0 : E)).set 0 x := by
  apply List.ext_getElem
  · rw [pairX_length]; simp
  · intro i h1 h2
    rw [pairX_length] at h1
    have e1 : (pairX n 1 x)[i] = (pairX n 1 x).getD i 0 := by rw [List.getD_eq_getElem?_getD, List.getElem?_eq_getElem (by rw [pairX_length]; exact h1)]; rfl
    rw [e1, pairX_getD n 1 x i h1, one_bit, List.getElem_set]
    by_cases c : i = 0
    · subst c; simp [pick_true]
    · rw [decide_eq_false c, pick_false, if_neg (fun h => c h.symm), List.getElem_replicate]
end Go.Proofs.Ytfmjodlcjaflfaa.Sp
namespace Go.Proofs.Ytfmjodlcjaflfaa.Sp
open Go.Proofs.Ytfmjodlcjaflfaa.V.B Go.RowKit Go.Proofs.Ytfmjodlcjaflfaa.B Go.Proofs.Ytfmjodlcjaflfaa.V.B.Ar Go.Proofs.Ytfmjodlcjaflfaa.V.B.Tw
set_option linter.unusedVariables false
theorem pick_add (b : Bool) (y z : E) : pick b (y + z) = pick b y + pick b z := by
  cases b
  · rw [pick_false, pick_false, pick_false, add_zero]
  · rw [pick_true, pick_true, pick_true]
theorem pick_mul (b : Bool) (y z : E) : pick b (y * z) = pick b y * z := by
  cases b
  · rw [pick_false, pick_false, zero_mul]
  · rw [pick_true, pick_true]
theorem pick_zero (b : Bool) : pick b (0 : E) = 0 := by
  cases b
  · exact pick_false _
  · exact pick_true _
theorem pick_xor (a b : Bool) (y : E) : pick (a ^^ b) y = pick a y + pick b y := by
  cases a <;> cases b
  · show pick false y = _; rw [pick_false, add_zero]
  · show pick true y = _; rw [pick_false, pick_true, zero_add]
  · show pick true y = _; rw [pick_false, pick_true, add_zero]
  · show pick false y = _; rw [pick_false, pick_true, add_self]
theorem pick_comm (a b : Bool) (y : E) : pick a (pick b y) = pick b (pick a y) := by
  cases a <;> cases b <;> simp only [pick_true, pick_false]
/-- Has an element the bit? -/
def hasB (x : E) (k : Nat) : Bool := (val x).testBit k
theorem hasB_add (x y : E) (k : Nat) : hasB (x + y) k = (hasB x k ^^ hasB y k) := by
  unfold hasB; rw [val_add, Nat.testBit_xor]
theorem hasB_zero (k : Nat) : hasB 0 k = false := by unfold hasB; rw [val_zero, Nat.zero_testBit]
/-- What the bit k of z picks of y is a sum in z. -/
theorem pick_hasB_add (x z y : E) (k : Nat) : pick (hasB (x + z) k) y = pick (hasB x k) y + pick (hasB z k) y := by rw [hasB_add, pick_xor]
theorem pick_hasB_sum (f : Nat → E) (y : E) (k : Nat) : ∀ n, pick (hasB (sumN f n) k) y = sumN (fun u => pick (hasB (f u) k) y) n
  | 0 => by rw [sumN, sumN, hasB_zero, pick_false]
  | n + 1 => by rw [sumN, sumN, pick_hasB_add, pick_hasB_sum f y k n]
theorem pick_hasB_pick (b : Bool) (x y : E) (k : Nat) : pick (hasB (pick b x) k) y = pick b (pick (hasB x k) y) := by
  cases b
  · rw [pick_false, pick_false, hasB_zero, pick_false]
  · rw [pick_true, pick_true]
theorem pick_sum (b : Bool) (f : Nat → E) : ∀ n, pick b (sumN f n) = sumN (fun u => pick b (f u)) n
  | 0 => pick_zero b
  | n + 1 => by rw [sumN, sumN, pick_add, pick_sum b f n]
theorem sumN_mulr (c : E) (f : Nat → E) (n : Nat) : sumN (fun i => f i * c) n = sumN f n * c := by
  rw [mul_comm, ← sumN_mul]
  exact sumN_congr n (fun i _ => mul_comm _ _)
theorem sumN_swap (f : Nat → Nat → E) (n : Nat) : ∀ m, sumN (fun i => sumN (fun j => f i j) m) n = sumN (fun j => sumN (fun i => f i j) n) m
  | 0 => sumN_zero n
  | m + 1 => by
    rw [sumN, ← sumN_swap f n m, ← sumN_add]
    exact sumN_congr n (fun i _ => rfl)
theorem sumN_one (f : Nat → E) (n i : Nat) (hi : i < n) (h : ∀ j, j < n → j ≠ i → f j = 0) : sumN f n = f i := by
  induction n with
  | zero => omega
  | succ n ih =>
    rw [sumN]
    by_cases c : i = n
    · subst c
      have : sumN f i = 0 := by
        rw [sumN_congr (g := fun _ => 0) i (fun j hj => h j (by omega) (by omega))]; exact sumN_zero i
      rw [this, zero_add]
    · rw [ih (by omega) (fun j hj hne => h j (by omega) hne), h n (by omega) (fun e => c e.symm), add_zero]
theorem val_bitE {n : Nat} (hn : n < 128) : val (bitE n) = 2 ^ n := by
  unfold bitE
  exact val_of 7 _ (by rw [Q_seven]; exact Nat.pow_lt_pow_right (by decide) hn)
theorem val_pick (b : Bool) (x : E) : val (pick b x) = if b then val x else 0 := by
  cases b
  · rw [pick_false, val_zero]; rfl
  · rw [pick_true]; rfl
/-- An element is the sum of its bits. -/
theorem val_expand (x : E) : ∀ n, n ≤ 128 → val (sumN (fun u => pick (hasB x u) (bitE u)) n) = val x % 2 ^ n
  | 0, _ => by rw [sumN, val_zero, Nat.pow_zero, Nat.mod_one]
  | n + 1, h => by
    rw [sumN, val_add, val_expand x n (by omega), val_pick, val_bitE (by omega)]
    apply Nat.eq_of_testBit_eq
    intro j
    rw [Nat.testBit_xor, Nat.testBit_mod_two_pow, Nat.testBit_mod_two_pow]
    show _ = _
    unfold hasB
    generalize val x = v
    by_cases c : j = n
    · subst c
      cases hb : v.testBit j with
      | true => rw [if_pos rfl, Nat.testBit_two_pow_self]; simp
      | false => rw [if_neg Bool.false_ne_true, Nat.zero_testBit]; simp
    · have h2 : (if v.testBit n then 2 ^ n else 0 : Nat).testBit j = false := by
        cases v.testBit n with
        | true => rw [if_pos rfl, Nat.testBit_two_pow]; simp; omega
        | false => rw [if_neg Bool.false_ne_true, Nat.zero_testBit]
      rw [h2, Bool.xor_false]
      have : decide (j < n + 1) = decide (j < n) := by rw [decide_eq_decide]; omega
      rw [this]
theorem expand {l : Nat} (hl : l ≤ 7) {x : E} (hx : InL l x) : sumN (fun u => pick (hasB x u) (bitE u)) (2 ^ l) = x := by
  apply val_inj
  rw [val_expand x (2 ^ l) (w128 hl)]
  exact Nat.mod_eq_of_lt hx
theorem bitE_in {l u : Nat} (hl : l ≤ 7) (hu : u < 2 ^ l) : InL l (bitE u) := by
  unfold InL Q
  rw [val_bitE (Nat.lt_of_lt_of_le hu (w128 hl))]
  exact Nat.pow_lt_pow_right (by decide) hu
theorem bitE_zero : bitE 0 = 1 := by
  apply val_inj; rw [val_bitE (by decide), val_one]
/-- The bits of a product are sums of those of the products of bits. -/
theorem has_mul {l : Nat} (hl : l ≤ 7) {x : E} (hx : InL l x) (a y : E) (k : Nat) : sumN (fun u => pick (hasB x u) (pick (hasB (bitE u * a) k) y)) (2 ^ l) = pick (hasB (x * a) k) y := by
  have h1 : x * a = sumN (fun u => pick (hasB x u) (bitE u * a)) (2 ^ l) := by
    conv => lhs; rw [← expand hl hx]
    rw [← sumN_mulr]
    exact sumN_congr _ (fun u _ => (pick_mul _ _ _).symm)
  rw [h1, pick_hasB_sum]
  exact sumN_congr _ (fun u _ => (pick_hasB_pick _ _ _ _).symm)
/-- Part k of a tensor times an element on the left, its parts times another one. -/
def actT (n : Nat) (t : Nat → E) (a p : E) (k : Nat) : E := sumN (fun u => pick (hasB (bitE u * a) k) (t u * p)) n
theorem actT_pair {l : Nat} (hl : l ≤ 7) {x : E} (hx : InL l x) (y a p : E) (k : Nat) : actT (2 ^ l) (fun u => pick (hasB x u) y) a p k = pick (hasB (x * a) k) (y * p) := by
  unfold actT
  rw [← has_mul hl hx a (y * p) k]
  exact sumN_congr _ (fun u _ => by rw [← pick_mul, pick_comm])
theorem actT_congr (n : Nat) {t s : Nat → E} (a p : E) (k : Nat) (h : ∀ u, u < n → t u = s u) : actT n t a p k = actT n s a p k := by
  unfold actT; exact sumN_congr _ (fun u hu => by rw [h u hu])
theorem actT_sum (n m : Nat) (t : Nat → Nat → E) (a p : E) (k : Nat) : actT n (fun u => sumN (fun i => t i u) m) a p k = sumN (fun i => actT n (t i) a p k) m := by
  unfold actT
  rw [sumN_swap (fun i u => pick (hasB (bitE u * a) k) (t i u * p)) m n]
  exact sumN_congr _ (fun u _ => by rw [← sumN_mulr, pick_sum])
theorem actT_add (n : Nat) (t s : Nat → E) (a p : E) (k : Nat) : actT n (fun u => t u + s u) a p k = actT n t a p k + actT n s a p k := by
  unfold actT
  rw [← sumN_add]
  exact sumN_congr _ (fun u _ => by rw [add_mul, pick_add])
theorem pick_in {l : Nat} {x : E} (b : Bool) (h : InL l x) : InL l (pick b x) := by
  cases b
  · rw [pick_false]; exact inL_zero l
  · rw [pick_true]; exact h
theorem sumN_in {l : Nat} (f : Nat → E) : ∀ n, (∀ i, i < n → InL l (f i)) → InL l (sumN f n)
  | 0, _ => inL_zero l
  | n + 1, h => by rw [sumN]; exact inL_add (sumN_in f n (fun i hi => h i (by omega))) (h n (by omega))
theorem actT_in {l : Nat} (hl : l ≤ 7) (n : Nat) (t : Nat → E) (a p : E) (k : Nat) (ht : ∀ u, u < n → InL l (t u)) (hp : InL l p) : InL l (actT n t a p k) :=
  sumN_in _ n (fun u hu => pick_in _ (inL_mul hl (ht u hu) hp))
/-- Weights, variable by variable from behind. -/
theorem weight_in {l : Nat} (hl : l ≤ 7) : ∀ (P : List E) (i : Nat), (∀ p ∈ P, InL l p) → InL l (weight P i)
  | [], i, _ => inL_one l
  | p :: ps, i, h => by
    have hp := h p List.mem_cons_self
    rw [weight]
    refine inL_mul hl ?_ (weight_in hl ps (i / 2) (fun q hq => h q (List.mem_cons_of_mem _ hq)))
    split
    · exact hp
    · exact inL_add (inL_one l) hp
theorem weight_snoc (p : E) : ∀ (P : List E) (i : Nat), weight (P ++ [p]) i = weight P i * (if i / 2 ^ P.length % 2 = 1 then p else 1 + p)
  | [], i => by
    show weight (p :: []) i = weight [] i * _
    rw [weight, weight, weight, mul_one, one_mul]
    simp
  | q :: Q, i => by
    show weight (q :: (Q ++ [p])) i = weight (q :: Q) i * _
    rw [weight, weight, weight_snoc p Q (i / 2), mul_assoc, Nat.div_div_eq_div_mul, List.length_cons, Nat.pow_succ, Nat.mul_comm 2]
theorem weight_high (b : Nat) : ∀ (P : List E) (i : Nat), i < 2 ^ P.length → weight P (2 ^ P.length * b + i) = weight P i
  | [], i, _ => rfl
  | q :: Q, i, h => by
    rw [List.length_cons, Nat.pow_succ] at h
    have e1 : (2 ^ (q :: Q).length * b + i) % 2 = i % 2 := by
      rw [List.length_cons, Nat.pow_succ, Nat.mul_comm (2 ^ Q.length) 2, Nat.mul_assoc]; omega
    have e2 : (2 ^ (q :: Q).length * b + i) / 2 = 2 ^ Q.length * b + i / 2 := by
      rw [List.length_cons, Nat.pow_succ, Nat.mul_comm (2 ^ Q.length) 2, Nat.mul_assoc]; omega
    rw [weight, weight, e1, e2, weight_high b Q (i / 2) (by omega)]
theorem weight_low (p : E) (P : List E) (i : Nat) (h : i < 2 ^ P.length) : weight (P ++ [p]) i = weight P i * (1 + p) := by
  rw [weight_snoc, Nat.div_eq_of_lt h]; rfl
theorem weight_up (p : E) (P : List E) (i : Nat) (h : i < 2 ^ P.length) : weight (P ++ [p]) (2 ^ P.length + i) = weight P i * p := by
  have h0 := weight_high 1 P i h
  rw [Nat.mul_one] at h0
  have e : (2 ^ P.length + i) / 2 ^ P.length % 2 = 1 := by
    rw [Nat.add_div_left _ (Nat.two_pow_pos _), Nat.div_eq_of_lt h]
  rw [weight_snoc, h0, e]; rfl
/-- How alike two points are, part by part. -/
def alikeX (P R : List E) (k : Nat) : E := sumN (fun i => pick (hasB (weight P i) k) (weight R i)) (2 ^ P.length)
theorem alikeX_nil (k : Nat) : alikeX [] [] k = pick (hasB 1 k) 1 := by
  unfold alikeX
  show sumN _ 1 = _
  rw [sumN, sumN, zero_add]; rfl
theorem alikeX_snoc {l : Nat} (hl : l ≤ 7) (P R : List E) (p r : E) (hP : ∀ x ∈ P, InL l x) (hlen : P.length = R.length) (k : Nat) :
    alikeX (P ++ [p]) (R ++ [r]) k = alikeX P R k + actT (2 ^ l) (alikeX P R) p 1 k + alikeX P R k * r := by
  have e1 : actT (2 ^ l) (alikeX P R) p 1 k = sumN (fun i => pick (hasB (weight P i * p) k) (weight R i)) (2 ^ P.length) := by
    unfold alikeX
    rw [actT_sum]
    exact sumN_congr _ (fun i _ => by rw [actT_pair hl (weight_in hl P i hP), mul_one])
  have e2 : alikeX P R k * r = sumN (fun i => pick (hasB (weight P i) k) (weight R i * r)) (2 ^ P.length) := by
    unfold alikeX
    rw [← sumN_mulr]
    exact sumN_congr _ (fun i _ => (pick_mul _ _ _).symm)
  rw [e1, e2]
  unfold alikeX
  rw [← sumN_add, ← sumN_add, List.length_append, List.length_singleton, Nat.pow_succ, Nat.mul_two, sumN_split, ← sumN_add]
  apply sumN_congr
  intro i hi
  have hi' : i < 2 ^ R.length := by rw [← hlen]; exact hi
  rw [weight_low p P i hi, weight_up p P i hi, weight_low r R i hi', show 2 ^ P.length + i = 2 ^ R.length + i by rw [hlen], weight_up r R i hi']
  generalize weight P i = w
  generalize weight R i = v
  rw [mul_add, mul_add, mul_one, mul_one, pick_hasB_add, pick_add, pick_add]
  generalize pick (hasB w k) v = a
  generalize pick (hasB (w * p) k) v = b
  generalize pick (hasB w k) (v * r) = c
  generalize pick (hasB (w * p) k) (v * r) = d
  have : a + c + (b + d) + d = a + b + c := by
    rw [add_assoc (a + c), add_assoc b d d, add_self, add_zero, add_assoc a c b, add_comm c b, ← add_assoc]
  exact this
end Go.Proofs.Ytfmjodlcjaflfaa.Sp
namespace Go.Proofs.Ytfmjodlcjaflfaa.Sp
open Go.Proofs.Ytfmjodlcjaflfaa.V.B Go.RowKit Go.Proofs.Ytfmjodlcjaflfaa.B Go.Proofs.Ytfmjodlcjaflfaa.V.B.Ar Go.Proofs.Ytfmjodlcjaflfaa.V.B.Tw
set_option linter.unusedVariables false
/-- A list of so many elements. -/
def tabL (n : Nat) (f : Nat → E) : List E := (List.range n).map f
theorem tabL_length (n : Nat) (f : Nat → E) : (tabL n f).length = n := by simp [tabL]
theorem tabL_getD (n : Nat) (f : Nat → E) (i : Nat) (h : i < n) : (tabL n f).getD i 0 = f i := getD_rangeM f 0 n i h
theorem tabL_congr (n : Nat) {f g : Nat → E} (h : ∀ i, i < n → f i = g i) : tabL n f = tabL n g := by
  unfold tabL
  apply List.map_congr_left
  intro i hi
  exact h i (List.mem_range.1 hi)
theorem tabL_self (X : List E) : tabL X.length (fun i => X.getD i 0) = X := by
  apply ext_getD (tabL_length _ _)
  intro i hi
  rw [tabL_length] at hi
  exact tabL_getD _ _ i hi
theorem tabL_set (n : Nat) (f g : Nat → E) (i : Nat) (hi : i < n) (hg : ∀ k, k < n → k ≠ i → g k = f k) : (tabL n f).set i (g i) = tabL n g := by
  apply ext_getD
  · rw [List.length_set, tabL_length, tabL_length]
  · intro k hk
    rw [List.length_set, tabL_length] at hk
    rw [tabL_getD n g k hk]
    by_cases c : i = k
    · subst c
      exact getD_set_self (by rw [tabL_length]; exact hi) _
    · rw [getD_set_ne c, tabL_getD n f k hk, hg k hk (fun e => c e.symm)]
theorem tabL_replicate (n : Nat) : List.replicate n (0 : E) = tabL n (fun _ => 0) := by
  apply ext_getD
  · rw [List.length_replicate, tabL_length]
  · intro i hi
    rw [List.length_replicate] at hi
    rw [tabL_getD n _ i hi, List.getD_eq_getElem?_getD, List.getElem?_replicate, if_pos hi]; rfl
theorem tabL_all {l : Nat} (hl : l ≤ 7) (n : Nat) (f : Nat → E) (h : ∀ i, i < n → InL l (f i)) : AllS (l : Int) (tabL n f) := by
  intro x hx
  unfold tabL at hx
  obtain ⟨i, hi, rfl⟩ := List.mem_map.1 hx
  exact ⟨by omega, by omega, by rw [Int.toNat_natCast]; exact h i (List.mem_range.1 hi)⟩
theorem ofS_of {l : Nat} (hl : l ≤ 7) {x : E} (h : InL l x) : OfS (l : Int) x := ⟨by omega, by omega, by rw [Int.toNat_natCast]; exact h⟩
theorem inL_of {l : Nat} {x : E} (h : OfS (l : Int) x) : InL l x := by have := h.2.2; rwa [Int.toNat_natCast] at this
/-- One product's bits, each with y, added to what there is. -/
def bitAdd (f : Nat → E) (z y : E) (i k : Nat) : E := f k + pick (decide (k < i) && hasB z k) y
theorem bitAdd_zero (f : Nat → E) (z y : E) (k : Nat) : bitAdd f z y 0 k = f k := by
  unfold bitAdd
  rw [decide_eq_false (Nat.not_lt_zero k), Bool.false_and, pick_false, add_zero]
theorem bitAdd_at (f : Nat → E) (z y : E) (i : Nat) : bitAdd f z y i i = f i := by
  unfold bitAdd
  rw [decide_eq_false (Nat.lt_irrefl i), Bool.false_and, pick_false, add_zero]
theorem bitAdd_next (f : Nat → E) (z y : E) (i k : Nat) (h : k ≠ i) : bitAdd f z y (i + 1) k = bitAdd f z y i k := by
  unfold bitAdd
  have : decide (k < i + 1) = decide (k < i) := by rw [decide_eq_decide]; omega
  rw [this]
theorem bitAdd_now (f : Nat → E) (z y : E) (i : Nat) : bitAdd f z y (i + 1) i = f i + pick (hasB z i) y := by
  unfold bitAdd
  rw [decide_eq_true (Nat.lt_succ_self i), Bool.true_and]
theorem bitAdd_end (f : Nat → E) (z y : E) (n k : Nat) (h : k < n) : bitAdd f z y n k = f k + pick (hasB z k) y := by
  unfold bitAdd
  rw [decide_eq_true h, Bool.true_and]
-- @IF packvbyLeft
end Go.Proofs.Ytfmjodlcjaflfaa.Sp
namespace Go.Proofs.Ytfmjodlcjaflfaa.Sp
open Go.Proofs.Ytfmjodlcjaflfaa.V.B Go.RowKit Go.Proofs.Ytfmjodlcjaflfaa.B Go.Proofs.Ytfmjodlcjaflfaa.V.B.Ar Go.Proofs.Ytfmjodlcjaflfaa.V.B.Tw
set_option linter.unusedVariables false
set_option linter.unusedSimpArgs false
/-- The number of the first element that is not P, or -1. -/
theorem index_gen {α : Type} {l : Nat → List S34 → α → Int → Int → Option Int} {p : Nat → S34 → Option α → Option Bool} {P : E → Prop} [DecidablePred P] {a : α}
    (hs : ∀ k xs n i, l (k + 1) xs a n i = if i < n then (if 0 ≤ i then (if i < (xs.length : Int) then ((p k (rd34 xs i) (some a)).bind fun r => if r = true then some i else l k xs a n (wrap64 (i + 1))) else none) else none) else some (-1))
    (hp : ∀ x, Ev (fun k => p k (toS x) (some a)) (decide (¬ P x))) (X : List E) (hX : X.length ≤ 4611686018427387904) : ∀ (d i : Nat), i + d = X.length →
    ∃ r : Int, Ev (fun k => l k (X.map toS) a (X.length : Int) (i : Int)) r ∧ (r ≥ 0 ↔ ¬ ∀ x ∈ X.drop i, P x) := by
  intro d
  induction d with
  | zero =>
    intro i hi
    refine ⟨-1, Ev.step (fun k => hs k _ _ _) (Ev.neg (by omega) (Ev.ret _)), ?_⟩
    rw [List.drop_eq_nil_of_le (by omega)]
    exact ⟨fun h => absurd h (by decide), fun h => absurd (fun x hx => by cases hx) h⟩
  | succ d ih =>
    intro i hi
    have hi' : i < X.length := by omega
    obtain ⟨r, h1, h2⟩ := ih (i + 1) (by omega)
    have hd : (∀ x ∈ X.drop i, P x) ↔ P (X.getD i 0) ∧ ∀ x ∈ X.drop (i + 1), P x := by
      rw [List.drop_eq_getElem_cons hi']
      have : X.getD i 0 = X[i] := by rw [List.getD_eq_getElem?_getD, List.getElem?_eq_getElem hi']; rfl
      rw [this]
      exact List.forall_mem_cons
    have go : ∀ {r : Int}, Ev (fun k => (p k (rd34 (X.map toS) (i : Int)) (some a)).bind fun r => if r = true then some (i : Int) else l k (X.map toS) a (X.length : Int) (wrap64 ((i : Int) + 1))) r → Ev (fun k => l k (X.map toS) a (X.length : Int) (i : Int)) r := fun h =>
      Ev.step (fun k => hs k _ _ _) (Ev.pos (by omega) (Ev.pos (Int.natCast_nonneg _) (Ev.pos (by rw [List.length_map]; omega) h)))
    simp only [rdS, w64_succ hi' hX] at go
    by_cases c : P (X.getD i 0)
    · refine ⟨r, go (Ev.bnd (hp _) (Ev.neg (by simpa using c) h1)), h2.trans ?_⟩
      rw [hd]
      exact ⟨fun h g => h g.2, fun h g => h ⟨c, g⟩⟩
    · refine ⟨(i : Int), go (Ev.bnd (hp _) (Ev.pos (by simpa using c) (Ev.ret _))), ?_⟩
      rw [hd]
      exact ⟨fun _ g => c g.1, fun _ => Int.natCast_nonneg _⟩
end Go.Proofs.Ytfmjodlcjaflfaa.Sp
namespace Go.Proofs.Ytfmjodlcjaflfaa.Sp
open Go.Proofs.Ytfmjodlcjaflfaa.V.B Go.RowKit Go.Proofs.Ytfmjodlcjaflfaa.B Go.Proofs.Ytfmjodlcjaflfaa.V.B.Ar Go.Proofs.Ytfmjodlcjaflfaa.V.B.Tw
set_option linter.unusedVariables false
set_option linter.unusedSimpArgs false
/-- How many bits a number has. -/
def blen (n : Nat) : Nat := if n = 0 then 0 else Nat.log2 n + 1
theorem blen_le (n k : Nat) : blen n ≤ k ↔ n < 2 ^ k := by
  unfold blen
  by_cases h : n = 0
  · rw [if_pos h, h]
    exact ⟨fun _ => Nat.two_pow_pos k, fun _ => Nat.zero_le _⟩
  · rw [if_neg h, ← Nat.log2_lt h]
    exact ⟨fun h => h, fun h => h⟩
theorem blen_shift (n s : Nat) (h : 2 ^ s ≤ n) : blen n = blen (n / 2 ^ s) + s := by
  have key : ∀ k, blen n ≤ k + s ↔ blen (n / 2 ^ s) ≤ k := by
    intro k
    rw [blen_le, blen_le, Nat.div_lt_iff_lt_mul (Nat.two_pow_pos s), ← Nat.pow_add]
  have hs : s ≤ blen n := by
    apply Classical.byContradiction
    intro g
    have := (blen_le n s).1 (by omega)
    omega
  have h1 := (key (blen (n / 2 ^ s))).2 (Nat.le_refl _)
  have h2 := (key (blen n - s)).1 (by omega)
  omega
theorem len8_eq : ∀ b : Nat, b < 256 → bt by256_793 (b : Int) = ((blen b : Nat) : Int) := by decide +kernel
theorem u8_id {x : Int} (h0 : 0 ≤ x) (h1 : x < 256) : IntKind.u8.wrap x = x := by
  simp [IntKind.wrap, IntKind.bits, IntKind.signed]; omega
theorem len_j10 (n : Nat) (hn : n < 256) (x : Nat) (hx : x ≤ 1000) : Ev (fun k => math_bits_Len64.j10 k (n : Int) (x : Int)) ((x + blen n : Nat) : Int) := by
  have hb : blen n ≤ 8 := (blen_le n 8).2 hn
  refine Ev.step (fun k => by rw [math_bits_Len64.j10]) ?_
  rw [u8_id (by omega) (by omega), len8_eq n hn, w64_id (x := ((blen n : Nat) : Int)) (by omega) (by omega), w64_add (by omega) (by omega)]
  exact Ev.pos (by omega) (Ev.pos (by rw [show (ByteArray.size by256_793 : Int) = 256 from by decide +kernel]; omega) (Ev.ret _))
theorem len_j7 (n : Nat) (hn : n < 65536) (x : Nat) (hx : x ≤ 900) : Ev (fun k => math_bits_Len64.j7 k (n : Int) (x : Int)) ((x + blen n : Nat) : Int) := by
  refine Ev.step (fun k => by rw [math_bits_Len64.j7]) ?_
  by_cases c : (n : Int) ≥ 256
  · refine Ev.pos c ?_
    have e8 : wrap64 ((x : Int) + 8) = ((x + 8 : Nat) : Int) := by rw [w64_id (by omega) (by omega)]; omega
    have hb := blen_shift n 8 (by omega)
    rw [show (8 : Int) = ((8 : Nat) : Int) from rfl, shr_u64 n 8 (by decide)] at *
    rw [e8]
    have := len_j10 (n / 2 ^ 8) (by omega) (x + 8) (by omega)
    rwa [show x + 8 + blen (n / 2 ^ 8) = x + blen n by omega] at this
  · exact Ev.neg c (len_j10 n (by omega) x (by omega))
theorem Len64_ev (n : Nat) (hn : n < 2 ^ 64) : Ev (fun k => math_bits_Len64.f k (n : Int)) ((blen n : Nat) : Int) := by
  unfold math_bits_Len64.f
  have s32 : shr .u64 (n : Int) 32 = ((n / 2 ^ 32 : Nat) : Int) := shr_u64 n 32 (by decide)
  have s16 : ∀ m : Nat, shr .u64 (m : Int) 16 = ((m / 2 ^ 16 : Nat) : Int) := fun m => shr_u64 m 16 (by decide)
  have e0 : wrap64 ((32 : Int) + 16) = ((48 : Nat) : Int) := by decide +kernel
  have e1 : wrap64 ((0 : Int) + 16) = ((16 : Nat) : Int) := by decide +kernel
  by_cases c : (n : Int) ≥ 4294967296
  · refine Ev.pos c ?_
    have hb := blen_shift n 32 (by omega)
    rw [s32, s16, e0]
    generalize hq : n / 2 ^ 32 = q at hb
    by_cases d : (q : Int) ≥ 65536
    · have hb2 := blen_shift q 16 (by omega)
      have := len_j7 (q / 2 ^ 16) (by omega) 48 (by decide)
      rw [show 48 + blen (q / 2 ^ 16) = blen n by omega] at this
      exact Ev.pos d this
    · have := len_j7 q (by omega) 32 (by decide)
      rw [show 32 + blen q = blen n by omega] at this
      exact Ev.neg d this
  · refine Ev.neg c ?_
    rw [s16, e1]
    by_cases d : (n : Int) ≥ 65536
    · have hb2 := blen_shift n 16 (by omega)
      have := len_j7 (n / 2 ^ 16) (by omega) 16 (by decide)
      rw [show 16 + blen (n / 2 ^ 16) = blen n by omega] at this
      exact Ev.pos d this
    · have := len_j7 n (by omega) 0 (by decide)
      rw [Nat.zero_add] at this
      exact Ev.neg d this
/-- The leading bit. -/
theorem lead_ev (x : E) : Ev (fun k => span_lead.f k (toS x)) (((blen (val x) : Nat) : Int) - 1) := by
  have h1 := hi_bd x
  have h2 := lo_bd x
  have hv := val_hl x
  unfold span_lead.f
  rw [toS_f0, toS_f1]
  obtain ⟨h, hh⟩ := Int.eq_ofNat_of_zero_le h1.1
  obtain ⟨l, hl⟩ := Int.eq_ofNat_of_zero_le h2.1
  rw [hh] at h1 hv ⊢
  rw [hl] at h2 hv ⊢
  rw [Int.toNat_natCast, Int.toNat_natCast] at hv
  by_cases c : (h : Int) = 0
  · refine Ev.pos c (Ev.bnd (Len64_ev l (by omega)) (Ev.ret' ?_))
    have : val x = l := by omega
    rw [this]
    have hb : blen l ≤ 64 := (blen_le l 64).2 (by omega)
    exact w64_id (by omega) (by omega)
  · refine Ev.neg c (Ev.bnd (Len64_ev h (by omega)) (Ev.ret' ?_))
    have hb : blen h ≤ 64 := (blen_le h 64).2 (by omega)
    have hs := blen_shift (val x) 64 (by omega)
    have hd : val x / 2 ^ 64 = h := by omega
    rw [hd] at hs
    rw [hs, w64_id (by omega) (by omega)]
    omega
/-- Do all elements have bits below n alone? -/
def InN (n : Nat) (X : List E) : Prop := ∀ x ∈ X, val x < 2 ^ n
instance (n : Nat) (X : List E) : Decidable (InN n X) := by unfold InN; infer_instance
theorem within_ev (n : Nat) (X : List E) (hX : X.length ≤ 4611686018427387904) : Ev (fun k => span_within.f k (X.map toS) (n : Int)) (decide (InN n X)) := by
  have hp : ∀ x, Ev (fun k => span_within_1.f k (toS x) (some (n : Int))) (decide (¬ val x < 2 ^ n)) := fun x => Ev.bnd (lead_ev x) (Ev.ret' (by
    have := blen_le (val x) n
    rw [decide_eq_decide]
    omega))
  obtain ⟨r, h1, h2⟩ := index_gen (P := fun x => val x < 2 ^ n) (l := fun k xs a n i => slices_IndexFunc77_c71.l2 k xs a n i) (p := span_within_1.f) (fun k xs n i => by rw [slices_IndexFunc77_c71.l2]) hp X hX X.length 0 (by omega)
  unfold span_within.f slices_ContainsFunc52_c71.f slices_IndexFunc77_c71.f
  rw [List.length_map]
  refine Ev.bnd (Ev.bnd h1 (Ev.ret _)) (Ev.ret' ?_)
  have h2 : r ≥ 0 ↔ ¬ InN n X := h2
  by_cases c : InN n X
  · rw [decide_eq_true c, decide_eq_false (fun g => (h2.1 g) c)]; rfl
  · rw [decide_eq_false c, decide_eq_true (h2.2 c)]; rfl
theorem towerBit_ev (n : Nat) (hn : n < 128) : Ev (fun k => tower_Bit.f k (n : Int)) (toS (bitE n)) := by
  obtain ⟨h1, h2⟩ := bitE_hl hn
  unfold tower_Bit.f
  refine Ev.pos (Int.natCast_nonneg _) ?_
  by_cases c : n < 64
  · refine Ev.pos (by omega) (Ev.pos (Int.natCast_nonneg _) (Ev.ret' ?_))
    unfold toS
    rw [h1, h2, if_pos c, if_pos c, shl_u64 n (by omega)]
  · refine Ev.neg (by omega) (Ev.step (fun k => by rw [tower_Bit.j3]) (Ev.pos (by omega) (Ev.pos (by omega) ?_)))
    have e : wrap64 ((n : Int) - 64) = ((n - 64 : Nat) : Int) := by rw [w64_id (by omega) (by omega)]; omega
    rw [e]
    refine Ev.pos (Int.natCast_nonneg _) (Ev.ret' ?_)
    unfold toS
    rw [h1, h2, if_neg c, if_neg c, shl_u64 (n - 64) (by omega)]
theorem spanHas_ev (x : E) (n : Nat) (hn : n < 128) : Ev (fun k => span_has.f k (toS x) (n : Int)) (hasB x n) := by
  unfold span_has.f
  refine Ev.bnd (towerBit_ev n hn) (Ev.ret' ?_)
  rw [toS_f0, toS_f1, toS_f0, toS_f1]
  exact hasBits x n hn
/-- Bits turned about, as far as one has come. -/
def turnN (X : List E) (m j : Nat) : E := sumN (fun i => pick (hasB (X.getD i 0) j) (bitE i)) m
def turnL (X : List E) (n : Nat) : List E := tabL n (turnN X X.length)
end Go.Proofs.Ytfmjodlcjaflfaa.Sp
namespace Go.Proofs.Ytfmjodlcjaflfaa.Sp
open Go.Proofs.Ytfmjodlcjaflfaa.V.B Go.RowKit Go.Proofs.Ytfmjodlcjaflfaa.B Go.Proofs.Ytfmjodlcjaflfaa.V.B.Ar Go.Proofs.Ytfmjodlcjaflfaa.V.B.Tw
set_option linter.unusedVariables false
set_option linter.unusedSimpArgs false
theorem not_ge {r : Int} {p : Prop} [Decidable p] (h : r ≥ 0 ↔ ¬ p) : (!decide (r ≥ 0)) = decide p := by
  by_cases c : p
  · rw [decide_eq_true c, decide_eq_false (fun g => (h.1 g) c)]; rfl
  · rw [decide_eq_false c, decide_eq_true (h.2 c)]; rfl
theorem cube_of_ev (L : Int) (X : List E) (hX : X.length ≤ 4611686018427387904) : Ev (fun k => cube_of.f k L (X.map toS)) (decide (AllS L X)) := by
  have hp : ∀ x, Ev (fun k => cube_of_1.f k (toS x) (some L)) (decide (¬ OfS L x)) := fun x => Ev.bnd (of_ev L x) (Ev.ret' (by rw [decide_not]))
  obtain ⟨r, h1, h2⟩ := index_gen (P := OfS L) (l := fun k xs a n i => slices_IndexFunc77_c75.l2 k xs a n i) (p := cube_of_1.f) (fun k xs n i => by rw [slices_IndexFunc77_c75.l2]) hp X hX X.length 0 (by omega)
  unfold cube_of.f slices_ContainsFunc52_c75.f slices_IndexFunc77_c75.f
  rw [List.length_map]
  exact Ev.bnd (Ev.bnd h1 (Ev.ret _)) (Ev.ret' (not_ge h2))
theorem ring_of_ev (L : Int) (X : List E) (hX : X.length ≤ 4611686018427387904) : Ev (fun k => ring_of.f k L (X.map toS)) (decide (AllS L X)) := by
  have hp : ∀ x, Ev (fun k => ring_of_1.f k (toS x) (some L)) (decide (¬ OfS L x)) := fun x => Ev.bnd (of_ev L x) (Ev.ret' (by rw [decide_not]))
  obtain ⟨r, h1, h2⟩ := index_gen (P := OfS L) (l := fun k xs a n i => slices_IndexFunc77_c53.l2 k xs a n i) (p := ring_of_1.f) (fun k xs n i => by rw [slices_IndexFunc77_c53.l2]) hp X hX X.length 0 (by omega)
  unfold ring_of.f slices_ContainsFunc52_c53.f slices_IndexFunc77_c53.f
  rw [List.length_map]
  exact Ev.bnd (Ev.bnd h1 (Ev.ret _)) (Ev.ret' (not_ge h2))
theorem weave_of_ev (L : Int) (X : List E) (hX : X.length ≤ 4611686018427387904) : Ev (fun k => weave_of.f k L (X.map toS)) (decide (AllS L X)) := by
  have hp : ∀ x, Ev (fun k => weave_of_1.f k (toS x) (some L)) (decide (¬ OfS L x)) := fun x => Ev.bnd (of_ev L x) (Ev.ret' (by rw [decide_not]))
  obtain ⟨r, h1, h2⟩ := index_gen (P := OfS L) (l := fun k xs a n i => slices_IndexFunc77_c85.l2 k xs a n i) (p := weave_of_1.f) (fun k xs n i => by rw [slices_IndexFunc77_c85.l2]) hp X hX X.length 0 (by omega)
  unfold weave_of.f slices_ContainsFunc52_c85.f slices_IndexFunc77_c85.f
  rw [List.length_map]
  exact Ev.bnd (Ev.bnd h1 (Ev.ret _)) (Ev.ret' (not_ge h2))
end Go.Proofs.Ytfmjodlcjaflfaa.Sp
namespace Go.Proofs.Ytfmjodlcjaflfaa.Sp
open Go.Proofs.Ytfmjodlcjaflfaa.V.B Go.RowKit Go.Proofs.Ytfmjodlcjaflfaa.B Go.Proofs.Ytfmjodlcjaflfaa.V.B.Ar Go.Proofs.Ytfmjodlcjaflfaa.V.B.Tw
set_option linter.unusedVariables false
def weightsL (P : List E) : List E := tabL (2 ^ P.length) (weight P)
theorem tabL_append (m n : Nat) (f g : Nat → E) : tabL m f ++ tabL n g = tabL (m + n) (fun i => if i < m then f i else g (i - m)) := by
  apply ext_getD
  · rw [List.length_append, tabL_length, tabL_length, tabL_length]
  · intro i hi
    rw [List.length_append, tabL_length, tabL_length] at hi
    rw [tabL_getD (m + n) _ i hi, List.getD_eq_getElem?_getD]
    by_cases c : i < m
    · rw [if_pos c, List.getElem?_append_left (by rw [tabL_length]; exact c), ← List.getD_eq_getElem?_getD, tabL_getD m f i c]
    · rw [if_neg c, List.getElem?_append_right (by rw [tabL_length]; omega), tabL_length, ← List.getD_eq_getElem?_getD, tabL_getD n g (i - m) (by omega)]
theorem weightsL_snoc (P : List E) (p : E) : tabL (2 ^ P.length) (fun i => weight P i + weight P i * p) ++ tabL (2 ^ P.length) (fun i => weight P i * p) = weightsL (P ++ [p]) := by
  unfold weightsL
  rw [tabL_append, List.length_append, List.length_singleton, Nat.pow_succ, Nat.mul_two]
  apply tabL_congr
  intro i hi
  by_cases c : i < 2 ^ P.length
  · rw [if_pos c, weight_low p P i c, mul_add, mul_one]
  · rw [if_neg c]
    have := weight_up p P (i - 2 ^ P.length) (by omega)
    rw [show 2 ^ P.length + (i - 2 ^ P.length) = i by omega] at this
    exact this.symm
theorem pickd_at (i : Nat) (y : E) : pick (decide (i < i)) y = 0 := by rw [decide_eq_false (Nat.lt_irrefl i), pick_false]
theorem pickd_now (i : Nat) (y : E) : pick (decide (i < i + 1)) y = y := by rw [decide_eq_true (Nat.lt_succ_self i), pick_true]
theorem pickd_next (i k : Nat) (y : E) (h : k ≠ i) : pick (decide (k < i + 1)) y = pick (decide (k < i)) y := by
  have : decide (k < i + 1) = decide (k < i) := by rw [decide_eq_decide]; omega
  rw [this]
theorem pickd_in (n k : Nat) (y : E) (h : k < n) : pick (decide (k < n)) y = y := by rw [decide_eq_true h, pick_true]
theorem pickd_zero (k : Nat) (y : E) : pick (decide (k < 0)) y = 0 := by rw [decide_eq_false (Nat.not_lt_zero k), pick_false]
theorem weights_l1 {l : Nat} (hl : l ≤ 7) (n : Nat) (hn : n ≤ 1000000) (w : Nat → E) (hw : ∀ i, i < n → InL l (w i)) (x : E) (hx : InL l x) (PS : List S34) (m j : Int) {R : List S34}
    (h : Ev (fun q => cube_Weights.l5 q (l : Int) PS m (wrap64 (j + 1)) ((tabL n (fun i => w i + w i * x) ++ tabL n (fun i => w i * x)).map toS)) R) :
    ∀ (d i : Nat), i + d = n → Ev (fun q => cube_Weights.l9 q (l : Int) PS m j (n : Int) (i : Int) ((tabL n (fun k => w k + pick (decide (k < i)) (w k * x))).map toS) (hi x) (lo x) ((tabL n (fun k => pick (decide (k < i)) (w k * x))).map toS)) R := by
  intro d
  induction d with
  | zero =>
    intro i hid
    have : i = n := by omega
    subst this
    refine Ev.step (fun q => by rw [cube_Weights.l9]) (Ev.neg (Int.lt_irrefl _) ?_)
    have e1 : tabL i (fun k => w k + pick (decide (k < i)) (w k * x)) = tabL i (fun k => w k + w k * x) := tabL_congr _ (fun k hk => by rw [pickd_in i k _ hk])
    have e2 : tabL i (fun k => pick (decide (k < i)) (w k * x)) = tabL i (fun k => w k * x) := tabL_congr _ (fun k hk => pickd_in i k _ hk)
    rw [e1, e2]
    refine Ev.pos (by rw [List.length_map, List.length_map, tabL_length, tabL_length]; omega) ?_
    rw [← List.map_append]
    exact h
  | succ d ih =>
    intro i hid
    have hi' : i < n := by omega
    have hih := ih (i + 1) (by omega)
    have g1 : (tabL n (fun k => w k + pick (decide (k < i)) (w k * x))).getD i 0 = w i := by rw [tabL_getD _ _ i hi', pickd_at, add_zero]
    have c3 : (i : Int) < (((tabL n (fun k => w k + pick (decide (k < i)) (w k * x))).map toS).length : Int) := by rw [List.length_map, tabL_length]; omega
    have c4 : (i : Int) < (((tabL n (fun k => pick (decide (k < i)) (w k * x))).map toS).length : Int) := by rw [List.length_map, tabL_length]; omega
    have eu : ((tabL n (fun k => pick (decide (k < i)) (w k * x))).map toS).set (i : Int).toNat (toS (w i * x)) = (tabL n (fun k => pick (decide (k < i + 1)) (w k * x))).map toS := by
      rw [Int.toNat_natCast, map_set]
      have hn2 := pickd_now i (w i * x)
      conv => lhs; rw [← hn2]
      rw [tabL_set n _ (fun k => pick (decide (k < i + 1)) (w k * x)) i hi' (fun k _ hne => pickd_next i k _ hne)]
    have eo : ((tabL n (fun k => w k + pick (decide (k < i)) (w k * x))).map toS).set (i : Int).toNat (toS (w i + w i * x)) = (tabL n (fun k => w k + pick (decide (k < i + 1)) (w k * x))).map toS := by
      rw [Int.toNat_natCast, map_set]
      have hn2 := pickd_now i (w i * x)
      conv => lhs; rw [← hn2]
      rw [tabL_set n _ (fun k => w k + pick (decide (k < i + 1)) (w k * x)) i hi' (fun k _ hne => by show w k + _ = w k + _; rw [pickd_next i k _ hne])]
    have g2 : (tabL n (fun k => pick (decide (k < i + 1)) (w k * x))).getD i 0 = w i * x := by rw [tabL_getD _ _ i hi', pickd_now]
    refine Ev.step (fun q => by rw [cube_Weights.l9]) (Ev.pos (by omega) (Ev.pos (Int.natCast_nonneg _) (Ev.pos c3 ?_)))
    simp only [rdS, g1, toS_f0, toS_f1]
    refine Ev.bnd (Mul_ev hl (hw i hi') hx) (Ev.pos (Int.natCast_nonneg _) (Ev.pos c4 (Ev.pos (Int.natCast_nonneg _) (Ev.pos (by rw [List.length_set]; exact c4) ?_))))
    simp only [eu, rdS, g2]
    refine Ev.bnd (Add_ev _ _) (Ev.pos (Int.natCast_nonneg _) (Ev.pos c3 ?_))
    simp only [eo, w64_succ hi' (show n ≤ 4611686018427387904 by omega)]
    exact hih
theorem inL_all {l : Nat} {P : List E} (h : AllS (l : Int) P) : ∀ p ∈ P, InL l p := fun p hp => inL_of (h p hp)
theorem weights_l0 {l : Nat} (hl : l ≤ 7) (P : List E) (hP : AllS (l : Int) P) (hPl : P.length ≤ 16) : ∀ (d j : Nat), j + d = P.length →
    Ev (fun q => cube_Weights.l5 q (l : Int) (P.map toS) (P.length : Int) (j : Int) ((weightsL (P.take j)).map toS)) ((weightsL P).map toS) := by
  intro d
  induction d with
  | zero =>
    intro j hj
    have : j = P.length := by omega
    subst this
    rw [List.take_length]
    exact Ev.step (fun q => by rw [cube_Weights.l5]) (Ev.neg (Int.lt_irrefl _) (Ev.ret _))
  | succ d ih =>
    intro j hj
    have hj' : j < P.length := by omega
    have hih := ih (j + 1) (by omega)
    have htl : (P.take j).length = j := by rw [List.length_take]; omega
    have hp16 : 2 ^ j ≤ 2 ^ 16 := Nat.pow_le_pow_right (by decide) (by omega)
    have hwl : (weightsL (P.take j)).length = 2 ^ j := by unfold weightsL; rw [tabL_length, htl]
    have hg : P.getD j 0 = P[j] := by rw [List.getD_eq_getElem?_getD, List.getElem?_eq_getElem hj']; rfl
    rw [List.take_succ_eq_append_getElem hj', ← hg, ← weightsL_snoc, htl] at hih
    refine Ev.step (fun q => by rw [cube_Weights.l5]) (Ev.pos (by omega) (Ev.pos (Int.natCast_nonneg _) (Ev.pos (by rw [List.length_map]; omega) ?_)))
    rw [List.length_map, hwl]
    refine Ev.pos (Int.natCast_nonneg _) (Ev.pos (by omega) ?_)
    simp only [rdS, toS_f0, toS_f1]
    have e0 : weightsL (P.take j) = tabL (2 ^ j) (fun k => weight (P.take j) k + pick (decide (k < 0)) (weight (P.take j) k * P.getD j 0)) := by
      unfold weightsL; rw [htl]
      exact tabL_congr _ (fun k _ => by rw [pickd_zero, add_zero])
    have e1 : List.replicate ((2 ^ j : Nat) : Int).toNat z34 = (tabL (2 ^ j) (fun k => pick (decide (k < 0)) (weight (P.take j) k * P.getD j 0))).map toS := by
      rw [Int.toNat_natCast, rep_zero, tabL_replicate]
      exact congrArg (List.map toS) (tabL_congr _ (fun k _ => (pickd_zero _ _).symm))
    rw [e0, e1]
    refine weights_l1 hl (2 ^ j) (by omega) (weight (P.take j)) (fun i _ => weight_in hl _ i (fun p hp => inL_all hP p (List.mem_of_mem_take hp))) (P.getD j 0) (allS_getD hP j) _ _ _ ?_ (2 ^ j) 0 (Nat.zero_add _)
    rw [w64_succ hj' (show P.length ≤ 4611686018427387904 by omega)]
    exact hih
/-- The weights, or nothing. -/
def weightsO (L : Int) (P : List E) : List E := if LvS L ∧ P.length ≤ 16 ∧ AllS L P then weightsL P else []
theorem Weights_ev (L : Int) (P : List E) : Ev (fun q => cube_Weights.f q L (P.map toS)) ((weightsO L P).map toS) := by
  have hT : ¬ (LvS L ∧ P.length ≤ 16 ∧ AllS L P) → weightsO L P = [] := fun h => if_neg h
  unfold cube_Weights.f
  rw [List.length_map]
  by_cases hL : LvS L
  rotate_left
  · exact Ev.bnd (wide_out hL) (Ev.pos rfl (Ev.ret' (by rw [hT fun h => hL h.1]; rfl)))
  obtain ⟨v, hv, hw⟩ := wide_in hL
  refine Ev.bnd hw (Ev.neg hv ?_)
  by_cases hl : (P.length : Int) > 16
  · exact Ev.pos hl (Ev.ret' (by rw [hT fun h => by have := h.2.1; omega]; rfl))
  refine Ev.neg hl (Ev.bnd (cube_of_ev L P (by omega)) ?_)
  by_cases hA : AllS L P
  rotate_left
  · rw [decide_eq_false hA]; exact Ev.pos rfl (Ev.ret' (by rw [hT fun h => hA h.2.2]; rfl))
  rw [decide_eq_true hA]
  have e : weightsO L P = weightsL P := if_pos ⟨hL, by omega, hA⟩
  rw [e]
  obtain ⟨l, rfl⟩ := Int.eq_ofNat_of_zero_le hL.1
  refine Ev.neg (by decide) (Ev.bnd One_ev ?_)
  have := weights_l0 (by have := hL.2; omega) P hA (by omega) P.length 0 (Nat.zero_add _)
  have e0 : (weightsL (P.take 0)).map toS = [toS 1] := rfl
  rw [e0] at this
  exact this
end Go.Proofs.Ytfmjodlcjaflfaa.Sp
namespace Go.Proofs.Ytfmjodlcjaflfaa.Sp
open Go.Proofs.Ytfmjodlcjaflfaa.V.B Go.RowKit Go.Proofs.Ytfmjodlcjaflfaa.B Go.Proofs.Ytfmjodlcjaflfaa.V.B.Ar Go.Proofs.Ytfmjodlcjaflfaa.V.B.Tw
set_option linter.unusedVariables false
set_option linter.unusedSimpArgs false
def bitsL (x : E) (n : Nat) : List Bool := (List.range n).map fun i => (val x).testBit i
theorem towerBits_ev {l : Nat} (hl : l ≤ 7) (x : E) (hx : OfS (l : Int) x) : Ev (fun k => tower_Bits.f k (l : Int) (toS x)) (bitsL x (2 ^ l)) := by
  have h128 := w128 hl
  unfold tower_Bits.f
  refine Ev.bnd (of_ev (l : Int) x) (Ev.nd (fun c => absurd hx c) fun _ => Ev.pos (Int.natCast_nonneg _) ?_)
  rw [shl_i64 l (by omega)]
  refine Ev.down (g := fun i k => tower_Bits.l5 k ((2 ^ l : Nat) : Int) (i : Int) (hi x) (lo x) (bitsL x i)) (n := 2 ^ l) ?_ fun i hi' hih => ?_
  · refine Ev.step (fun k => by rw [tower_Bits.l5]) ?_
    exact Ev.neg (Int.lt_irrefl _) (Ev.ret' rfl)
  · have f0 : (i : Int) < ((2 ^ l : Nat) : Int) := by omega
    have f1 : (bitsL x i).length + 1 ≤ 140737488355328 / 1 := by unfold bitsL; rw [List.length_map, List.length_range]; omega
    have hs : bitsL x (i + 1) = bitsL x i ++ [(val x).testBit i] := by unfold bitsL; rw [List.range_succ, List.map_append]; rfl
    rw [hs, ← hasBits x i (by omega)] at hih
    have hb : (!decide (Go.bits .or .u64 (Go.bits .and .u64 (lo x) (lo (bitE i))) (Go.bits .and .u64 (hi x) (hi (bitE i))) = 0)) = ((Go.bits .or .u64 (Go.bits .and .u64 (lo x) (lo (bitE i))) (Go.bits .and .u64 (hi x) (hi (bitE i)))) != 0) := by
      rw [Bool.eq_iff_iff]; simp
    rw [← hb] at hih
    refine Ev.step (fun k => by rw [tower_Bits.l5]) (Ev.pos f0 (Ev.bnd (towerBit_ev i (by omega)) (Ev.pos f1 ?_)))
    rw [w64_succ hi' (by omega)]
    exact hih
theorem byLeft_l1 {l : Nat} (hl : l ≤ 7) (f : Nat → E) (z y a p : E) (TS : List S34) (m u : Int) {R : List S34}
    (h : Ev (fun q => packv_byLeft.l2 q (l : Int) TS m (wrap64 (u + 1)) ((tabL (2 ^ l) (fun k => f k + pick (hasB z k) y)).map toS) (hi a) (lo a) (hi p) (lo p)) R) :
    ∀ (d i : Nat), i + d = 2 ^ l → Ev (fun q => packv_byLeft.l7 q (l : Int) TS m u ((2 ^ l : Nat) : Int) (i : Int) ((tabL (2 ^ l) (bitAdd f z y i)).map toS) (hi a) (lo a) (hi p) (lo p) (hi y) (lo y) (bitsL z (2 ^ l))) R := by
  have h128 := w128 hl
  have hlb : (bitsL z (2 ^ l)).length = 2 ^ l := by unfold bitsL; simp
  intro d
  induction d with
  | zero =>
    intro i hid
    have : i = 2 ^ l := by omega
    subst this
    refine Ev.step (fun q => by rw [packv_byLeft.l7]) (Ev.neg (Int.lt_irrefl _) ?_)
    rw [tabL_congr _ (fun k hk => bitAdd_end f z y (2 ^ l) k hk)]
    exact h
  | succ d ih =>
    intro i hid
    have hi' : i < 2 ^ l := by omega
    have hih := ih (i + 1) (by omega)
    have hb : rdB (bitsL z (2 ^ l)) (i : Int) = hasB z i := by
      show (bitsL z (2 ^ l)).getD (i : Int).toNat false = _
      rw [Int.toNat_natCast]; exact getD_rangeM _ false _ i hi'
    have hg : (tabL (2 ^ l) (bitAdd f z y i)).getD i 0 = f i := by rw [tabL_getD _ _ i hi', bitAdd_at]
    have c3 : i < ((tabL (2 ^ l) (bitAdd f z y i)).map toS).length := by rw [List.length_map, tabL_length]; exact hi'
    refine Ev.step (fun q => by rw [packv_byLeft.l7]) (Ev.pos (by omega) (Ev.ixS (by rw [hlb]; exact hi') ?_))
    rw [hb, w64_succ hi' (show 2 ^ l ≤ 4611686018427387904 by omega)]
    cases c : hasB z i with
    | true =>
      refine Ev.pos rfl (Ev.ixS c3 ?_)
      rw [rdS, hg]
      refine Ev.bnd (Add_ev _ _) (Ev.ixS c3 ?_)
      have e : ((tabL (2 ^ l) (bitAdd f z y i)).map toS).set (i : Int).toNat (toS (f i + y)) = (tabL (2 ^ l) (bitAdd f z y (i + 1))).map toS := by
        rw [Int.toNat_natCast, map_set]
        have hn := bitAdd_now f z y i
        rw [c, pick_true] at hn
        rw [← hn, tabL_set _ _ _ i hi' (fun k _ hne => bitAdd_next f z y i k hne)]
      rw [e]; exact hih
    | false =>
      refine Ev.neg Bool.false_ne_true ?_
      have e : tabL (2 ^ l) (bitAdd f z y (i + 1)) = tabL (2 ^ l) (bitAdd f z y i) := by
        apply tabL_congr
        intro k _
        by_cases ck : k = i
        · subst ck; rw [bitAdd_now, c, pick_false, add_zero, bitAdd_at]
        · exact bitAdd_next f z y i k ck
      rw [← e]; exact hih
theorem byLeft_l0 {l : Nat} (hl : l ≤ 7) (T : List E) (a p : E) (hT : AllS (l : Int) T) (hTl : T.length ≤ 2 ^ l) (ha : InL l a) (hp : InL l p) (f : Nat → E) :
    ∀ (d u : Nat), u + d = T.length → Ev (fun q => packv_byLeft.l2 q (l : Int) (T.map toS) (T.length : Int) (u : Int) ((tabL (2 ^ l) (fun k => f k + actT u (fun i => T.getD i 0) a p k)).map toS) (hi a) (lo a) (hi p) (lo p))
      ((tabL (2 ^ l) (fun k => f k + actT T.length (fun i => T.getD i 0) a p k)).map toS) := by
  have h128 := w128 hl
  intro d
  induction d with
  | zero =>
    intro u hu
    have : u = T.length := by omega
    subst this
    refine Ev.step (fun q => by rw [packv_byLeft.l2]) ?_
    exact Ev.neg (Int.lt_irrefl _) (Ev.ret' rfl)
  | succ d ih =>
    intro u hu
    have hu' : u < T.length := by omega
    have hih := ih (u + 1) (by omega)
    have hw := w64_succ hu' (show T.length ≤ 4611686018427387904 by omega)
    have hs : ∀ k, actT (u + 1) (fun i => T.getD i 0) a p k = actT u (fun i => T.getD i 0) a p k + pick (hasB (bitE u * a) k) (T.getD u 0 * p) := fun k => by
      unfold actT; rw [sumN]
    have hf : (fun k => f k + actT (u + 1) (fun i => T.getD i 0) a p k) = fun k => (f k + actT u (fun i => T.getD i 0) a p k) + pick (hasB (bitE u * a) k) (T.getD u 0 * p) := by
      funext k; rw [hs, add_assoc]
    rw [hf] at hih
    refine Ev.step (fun q => by rw [packv_byLeft.l2]) (Ev.pos (by omega) (Ev.ixS (by rw [List.length_map]; exact hu') ?_))
    rw [rdS]
    refine Ev.bnd (Mul_ev hl (allS_getD hT u) hp) ?_
    by_cases c : T.getD u 0 * p = 0
    · refine Ev.pos ((eq_zero_iff _).1 c) ?_
      rw [hw]
      have e : (fun k => (f k + actT u (fun i => T.getD i 0) a p k) + pick (hasB (bitE u * a) k) (T.getD u 0 * p)) = fun k => f k + actT u (fun i => T.getD i 0) a p k := by
        funext k; rw [c, pick_zero, add_zero]
      rw [e] at hih
      exact hih
    · refine Ev.neg (fun g => c ((eq_zero_iff _).2 g)) ?_
      refine Ev.bnd (towerBit_ev u (by omega)) ?_
      have hbe := bitE_in hl (show u < 2 ^ l by omega)
      refine Ev.bnd (Mul_ev hl hbe ha) ?_
      refine Ev.bnd (towerBits_ev hl (bitE u * a) (ofS_of hl (inL_mul hl hbe ha))) ?_
      have hlb : (bitsL (bitE u * a) (2 ^ l)).length = 2 ^ l := by unfold bitsL; simp
      rw [hlb]
      have e0 : tabL (2 ^ l) (fun k => f k + actT u (fun i => T.getD i 0) a p k) = tabL (2 ^ l) (bitAdd (fun k => f k + actT u (fun i => T.getD i 0) a p k) (bitE u * a) (T.getD u 0 * p) 0) :=
        tabL_congr _ (fun k _ => (bitAdd_zero (fun k => f k + actT u (fun i => T.getD i 0) a p k) (bitE u * a) (T.getD u 0 * p) k).symm)
      rw [e0]
      refine byLeft_l1 hl (fun k => f k + actT u (fun i => T.getD i 0) a p k) (bitE u * a) (T.getD u 0 * p) a p _ _ _ ?_ (2 ^ l) 0 (Nat.zero_add _)
      rw [hw]
      exact hih
theorem byLeft_ev {l : Nat} (hl : l ≤ 7) (f : Nat → E) (T : List E) (a p : E) (hT : AllS (l : Int) T) (hTl : T.length ≤ 2 ^ l) (ha : InL l a) (hp : InL l p) :
    Ev (fun q => packv_byLeft.f q (l : Int) ((tabL (2 ^ l) f).map toS) (T.map toS) (toS a) (toS p)) ((tabL (2 ^ l) (fun k => f k + actT T.length (fun i => T.getD i 0) a p k)).map toS) := by
  unfold packv_byLeft.f
  rw [List.length_map]
  have := byLeft_l0 hl T a p hT hTl ha hp f T.length 0 (Nat.zero_add _)
  have e : tabL (2 ^ l) (fun k => f k + actT 0 (fun i => T.getD i 0) a p k) = tabL (2 ^ l) f := tabL_congr _ (fun k _ => by
    show f k + sumN _ 0 = f k
    rw [sumN, add_zero])
  rw [e] at this
  exact this
end Go.Proofs.Ytfmjodlcjaflfaa.Sp
namespace Go.Proofs.Ytfmjodlcjaflfaa.Sp
open Go.Proofs.Ytfmjodlcjaflfaa.V.B Go.RowKit Go.Proofs.Ytfmjodlcjaflfaa.B Go.Proofs.Ytfmjodlcjaflfaa.V.B.Ar Go.Proofs.Ytfmjodlcjaflfaa.V.B.Tw
set_option linter.unusedVariables false
set_option linter.unusedSimpArgs false
theorem psize_in {l : Nat} (hl : l ≤ 7) : Ev (fun k => packv_size.f k (l : Int)) ((2 ^ l : Nat) : Int) := by
  obtain ⟨v, hv, ev⟩ := wide_in (L := (l : Int)) ⟨by omega, by omega⟩
  unfold packv_size.f
  refine Ev.bnd ev (Ev.neg hv (Ev.pos (Int.natCast_nonneg _) (Ev.ret' ?_)))
  exact shl_i64 l (by omega)
theorem psize_out {L : Int} (h : ¬ LvS L) : Ev (fun k => packv_size.f k L) 0 := by
  unfold packv_size.f
  exact Ev.bnd (wide_out h) (Ev.pos rfl (Ev.ret _))
theorem left_l5 (x : E) (n : Nat) (hn : n ≤ 128) : ∀ (d i : Nat), i + d = n → Ev (fun k => packv_Left.l5 k (n : Int) (i : Int) ((pairX i x 1 ++ List.replicate (n - i) 0).map toS) (bitsL x n)) ((pairX n x 1).map toS) := by
  intro d
  induction d with
  | zero =>
    intro i hid
    have : i = n := by omega
    subst this
    rw [Nat.sub_self, List.replicate_zero, List.append_nil]
    refine Ev.step (fun k => by rw [packv_Left.l5]) ?_
    exact Ev.neg (Int.lt_irrefl _) (Ev.ret' rfl)
  | succ d ih =>
    intro i hid
    have hi' : i < n := by omega
    have hih := ih (i + 1) (by omega)
    have hlb : (bitsL x n).length = n := by unfold bitsL; simp
    have hb : rdB (bitsL x n) (i : Int) = (val x).testBit i := by
      show (bitsL x n).getD (i : Int).toNat false = _
      rw [Int.toNat_natCast]; exact getD_rangeM _ false n i hi'
    have hp := pairX_succ i x 1
    have hr : List.replicate (n - i) (0 : E) = 0 :: List.replicate (n - (i + 1)) 0 := by rw [show n - i = (n - (i + 1)) + 1 by omega, List.replicate_succ]
    have c3 : i < ((pairX i x 1 ++ List.replicate (n - i) (0 : E)).map toS).length := by
      rw [List.length_map, List.length_append, pairX_length, List.length_replicate]; omega
    refine Ev.step (fun k => by rw [packv_Left.l5]) (Ev.pos (by omega) (Ev.ixS (by rw [hlb]; exact hi') ?_))
    rw [hb, w64_succ hi' (by omega)]
    cases c : (val x).testBit i with
    | true =>
      refine Ev.pos rfl (Ev.bnd One_ev (Ev.ixS c3 ?_))
      have e : ((pairX i x 1 ++ List.replicate (n - i) (0 : E)).map toS).set (i : Int).toNat (toS 1) = (pairX (i + 1) x 1 ++ List.replicate (n - (i + 1)) 0).map toS := by
        rw [Int.toNat_natCast, ← List.map_set, hr, hp, c, pick_true, List.append_assoc]
        congr 1
        rw [List.set_append_right _ _ (by rw [pairX_length]; exact Nat.le_refl _), pairX_length, Nat.sub_self, List.set_cons_zero]; rfl
      rw [e]; exact hih
    | false =>
      refine Ev.neg (by decide) ?_
      rw [hp, c, pick_false, List.append_assoc] at hih
      rw [hr]; exact hih
theorem Left_ev (L : Int) (x : E) : Ev (fun k => packv_Left.f k L (toS x)) ((leftO L x).map toS) := by
  unfold packv_Left.f
  refine Ev.bnd (of_ev L x) (Ev.nd (fun c => Ev.ret' ?_) fun c => ?_)
  · have e : leftO L x = [] := if_neg c
    rw [e]; rfl
  obtain ⟨l, rfl⟩ := Int.eq_ofNat_of_zero_le c.1
  have hl : l ≤ 7 := by have := c.2.1; omega
  have h128 := w128 hl
  have e : leftO (l : Int) x = pairX (2 ^ l) x 1 := by unfold leftO; rw [if_pos c, Int.toNat_natCast]
  rw [e]
  refine Ev.bnd (psize_in hl) (Ev.pos (Int.natCast_nonneg _) (Ev.pos (by omega) (Ev.bnd (towerBits_ev hl x c) ?_)))
  have hlb : (bitsL x (2 ^ l)).length = 2 ^ l := by unfold bitsL; simp
  rw [hlb, Int.toNat_natCast, rep_zero]
  exact left_l5 x (2 ^ l) h128 (2 ^ l) 0 (Nat.zero_add _)
theorem POne_ev (L : Int) : Ev (fun k => packv_One.f k L) ((leftO L 1).map toS) := by
  unfold packv_One.f
  exact Ev.bnd One_ev (Ev.bnd (Left_ev L 1) (Ev.ret _))
def AllT (L : Int) (Ts : List (List E)) : Prop := ∀ t ∈ Ts, AllS L t
instance (L : Int) (Ts : List (List E)) : Decidable (AllT L Ts) := by unfold AllT; infer_instance
def LenT (s : Int) (Ts : List (List E)) : Prop := ∀ t ∈ Ts, (t.length : Int) = s
instance (s : Int) (Ts : List (List E)) : Decidable (LenT s Ts) := by unfold LenT; infer_instance
def rowsS (Ts : List (List E)) : List (List S34) := Ts.map fun t => t.map toS
theorem rdRows (Ts : List (List E)) (i : Nat) : B.rdL (rowsS Ts) (i : Int) = (Ts.getD i []).map toS := by
  unfold B.rdL rowsS
  rw [Int.toNat_natCast, List.getD_eq_getElem?_getD, List.getD_eq_getElem?_getD, List.getElem?_map]
  cases Ts[i]? <;> rfl
def paskE (L : Int) (Ts : List (List E)) (M : List E) : Int := if LvS L then (if LenT ((2 ^ L.toNat : Nat) : Int) Ts then (if AllT L Ts ∧ AllS L M then 0 else 5) else 6) else 1
theorem rows_drop (Ts : List (List E)) {i : Nat} (h : i < Ts.length) : Ts.drop i = Ts.getD i [] :: Ts.drop (i + 1) := by
  rw [List.drop_eq_getElem_cons h, List.getD_eq_getElem?_getD, List.getElem?_eq_getElem h]; rfl
theorem pbad0_ev (L : Int) (X : List E) (hX : X.length ≤ 4611686018427387904) : Ev (fun k => slices_ContainsFunc79_c78.f k (X.map toS) L) (decide (¬ AllS L X)) := by
  have hp : ∀ x, Ev (fun k => packv_ask_1.f k (toS x) (some L)) (decide (¬ OfS L x)) := fun x => Ev.bnd (of_ev L x) (Ev.ret' (by rw [decide_not]))
  obtain ⟨r, h1, h2⟩ := index_gen (P := OfS L) (l := fun k xs a n i => slices_IndexFunc86_c78.l2 k xs a n i) (p := packv_ask_1.f) (fun k xs n i => by rw [slices_IndexFunc86_c78.l2]) hp X hX X.length 0 (by omega)
  unfold slices_ContainsFunc79_c78.f slices_IndexFunc86_c78.f
  rw [List.length_map]
  exact Ev.bnd h1 (Ev.ret' (by rw [decide_eq_decide]; exact h2))
theorem pbad1_ev (L : Int) (X : List E) (hX : X.length ≤ 4611686018427387904) : Ev (fun k => slices_ContainsFunc52_c78.f k (X.map toS) L) (decide (¬ AllS L X)) := by
  have hp : ∀ x, Ev (fun k => packv_ask_1.f k (toS x) (some L)) (decide (¬ OfS L x)) := fun x => Ev.bnd (of_ev L x) (Ev.ret' (by rw [decide_not]))
  obtain ⟨r, h1, h2⟩ := index_gen (P := OfS L) (l := fun k xs a n i => slices_IndexFunc77_c78.l2 k xs a n i) (p := packv_ask_1.f) (fun k xs n i => by rw [slices_IndexFunc77_c78.l2]) hp X hX X.length 0 (by omega)
  unfold slices_ContainsFunc52_c78.f slices_IndexFunc77_c78.f
  rw [List.length_map]
  exact Ev.bnd h1 (Ev.ret' (by rw [decide_eq_decide]; exact h2))
theorem pask_l11 (L : Int) (Ts : List (List E)) (M : List E) (hM : M.length ≤ 1000000) (hT : ∀ t ∈ Ts, t.length ≤ 1000000) (hn : Ts.length ≤ 1000000) : ∀ (d i : Nat), i + d = Ts.length →
    Ev (fun k => packv_ask.l11 k (M.map toS) (rowsS Ts) (Ts.length : Int) (i : Int) L) (if AllT L (Ts.drop i) ∧ AllS L M then 0 else 5) := by
  intro d
  induction d with
  | zero =>
    intro i hi'
    have hz : AllT L [] := fun t ht => by cases ht
    rw [List.drop_eq_nil_of_le (by omega)]
    refine Ev.step (fun k => by rw [packv_ask.l11]) ?_
    refine Ev.neg (by omega) (Ev.bnd (pbad1_ev L M (by omega)) (Ev.dd (fun c => ?_) fun c => ?_))
    · have e : (if AllT L [] ∧ AllS L M then (0 : Int) else 5) = 5 := if_neg fun h => c h.2
      rw [e]; exact Ev.ret _
    · have e : (if AllT L [] ∧ AllS L M then (0 : Int) else 5) = 0 := if_pos ⟨hz, Classical.byContradiction c⟩
      rw [e]; exact Ev.ret _
  | succ d ih =>
    intro i hi'
    have hlt : i < Ts.length := by omega
    have hih := ih (i + 1) (by omega)
    have hl : i < (rowsS Ts).length := by unfold rowsS; rw [List.length_map]; exact hlt
    have hd : AllT L (Ts.drop i) ↔ AllS L (Ts.getD i []) ∧ AllT L (Ts.drop (i + 1)) := by
      rw [rows_drop Ts hlt]; exact List.forall_mem_cons
    have hmem : Ts.getD i [] ∈ Ts := by
      rw [List.getD_eq_getElem?_getD, List.getElem?_eq_getElem hlt]; exact List.getElem_mem hlt
    refine Ev.step (fun k => by rw [packv_ask.l11]) (Ev.pos (by omega) (Ev.ixS hl ?_))
    rw [rdRows, w64_succ hlt (by omega)]
    refine Ev.bnd (pbad0_ev L _ (by have := hT _ hmem; omega)) (Ev.dd (fun c => Ev.ret' (if_neg fun h => c (hd.1 h.1).1).symm) fun c => ?_)
    have c : AllS L (Ts.getD i []) := Classical.byContradiction c
    have e : (if AllT L (Ts.drop i) ∧ AllS L M then (0 : Int) else 5) = if AllT L (Ts.drop (i + 1)) ∧ AllS L M then 0 else 5 := by
      by_cases g : AllT L (Ts.drop (i + 1)) ∧ AllS L M
      · rw [if_pos g, if_pos ⟨hd.2 ⟨c, g.1⟩, g.2⟩]
      · rw [if_neg g, if_neg fun h => g ⟨(hd.1 h.1).2, h.2⟩]
    rw [e]; exact hih
theorem pask_ev (L : Int) (Ts : List (List E)) (M : List E) (hM : M.length ≤ 1000000) (hT : ∀ t ∈ Ts, t.length ≤ 1000000) (hn : Ts.length ≤ 1000000) : Ev (fun k => packv_ask.f k L (rowsS Ts) (M.map toS)) (paskE L Ts M) := by
  unfold packv_ask.f
  by_cases hL : LvS L
  rotate_left
  · have e : paskE L Ts M = 1 := if_neg hL
    rw [e]; exact Ev.bnd (psize_out hL) (Ev.pos rfl (Ev.ret _))
  obtain ⟨l, rfl⟩ := Int.eq_ofNat_of_zero_le hL.1
  have hl : l ≤ 7 := by have := hL.2; omega
  have hp := Nat.two_pow_pos l
  have e : paskE (l : Int) Ts M = if LenT ((2 ^ l : Nat) : Int) Ts then (if AllT (l : Int) Ts ∧ AllS (l : Int) M then 0 else 5) else 6 := by unfold paskE; rw [if_pos hL, Int.toNat_natCast]
  rw [e]
  have hrl : (rowsS Ts).length = Ts.length := by unfold rowsS; rw [List.length_map]
  have go : ∀ (d i : Nat), i + d = Ts.length → Ev (fun k => packv_ask.l4 k (rowsS Ts) (M.map toS) (rowsS Ts) (Ts.length : Int) (i : Int) (l : Int)) (if LenT ((2 ^ l : Nat) : Int) (Ts.drop i) then (if AllT (l : Int) Ts ∧ AllS (l : Int) M then 0 else 5) else 6) := by
    intro d
    induction d with
    | zero =>
      intro i hi'
      have hz : LenT ((2 ^ l : Nat) : Int) [] := fun t ht => by cases ht
      rw [List.drop_eq_nil_of_le (by omega), if_pos hz]
      refine Ev.step (fun k => by rw [packv_ask.l4]) (Ev.neg (by omega) ?_)
      rw [hrl]
      exact pask_l11 (l : Int) Ts M hM hT hn Ts.length 0 (by omega)
    | succ d ih =>
      intro i hi'
      have hlt : i < Ts.length := by omega
      have hih := ih (i + 1) (by omega)
      have hl2 : i < (rowsS Ts).length := by rw [hrl]; exact hlt
      have hd : LenT ((2 ^ l : Nat) : Int) (Ts.drop i) ↔ ((Ts.getD i []).length : Int) = ((2 ^ l : Nat) : Int) ∧ LenT ((2 ^ l : Nat) : Int) (Ts.drop (i + 1)) := by
        rw [rows_drop Ts hlt]; exact List.forall_mem_cons
      refine Ev.step (fun k => by rw [packv_ask.l4]) (Ev.pos (by omega) (Ev.ixS hl2 (Ev.bnd (psize_in hl) ?_)))
      rw [rdRows, w64_succ hlt (by omega), List.length_map]
      refine Ev.both (fun c => ?_) fun c => Ev.ret' (if_neg fun h => c (hd.1 h).1).symm
      have e : (if LenT ((2 ^ l : Nat) : Int) (Ts.drop i) then (if AllT (l : Int) Ts ∧ AllS (l : Int) M then (0 : Int) else 5) else 6) = if LenT ((2 ^ l : Nat) : Int) (Ts.drop (i + 1)) then (if AllT (l : Int) Ts ∧ AllS (l : Int) M then 0 else 5) else 6 := by
        by_cases g : LenT ((2 ^ l : Nat) : Int) (Ts.drop (i + 1))
        · rw [if_pos g, if_pos (hd.2 ⟨c, g⟩)]
        · rw [if_neg g, if_neg fun h => g (hd.1 h).2]
      rw [e]; exact hih
  refine Ev.bnd (psize_in hl) (Ev.neg (by omega) ?_)
  rw [hrl]
  exact go Ts.length 0 (by omega)
end Go.Proofs.Ytfmjodlcjaflfaa.Sp
namespace Go.Proofs.Ytfmjodlcjaflfaa.Sp
open Go.Proofs.Ytfmjodlcjaflfaa.V.B Go.RowKit Go.Proofs.Ytfmjodlcjaflfaa.B Go.Proofs.Ytfmjodlcjaflfaa.V.B.Ar Go.Proofs.Ytfmjodlcjaflfaa.V.B.Tw
set_option linter.unusedVariables false
theorem dot_l0 {l : Nat} (hl : l ≤ 7) (X Y : List E) (hX : AllS (l : Int) X) (hY : AllS (l : Int) Y) (hlen : X.length = Y.length) (hn : X.length ≤ 1000000) : ∀ (d i : Nat), i + d = X.length →
    Ev (fun k => tower_Dot.l5 k (l : Int) (X.map toS) (Y.map toS) (X.length : Int) (i : Int) 0 0 (hi (sumN (fun j => X.getD j 0 * Y.getD j 0) i)) (lo (sumN (fun j => X.getD j 0 * Y.getD j 0) i))) (toS (sumN (fun j => X.getD j 0 * Y.getD j 0) X.length)) := by
  intro d
  induction d with
  | zero =>
    intro i hid
    have : i = X.length := by omega
    subst this
    refine Ev.step (fun k => by rw [tower_Dot.l5]) ?_
    exact Ev.neg (Int.lt_irrefl _) (Ev.ret _)
  | succ d ih =>
    intro i hid
    have hi' : i < X.length := by omega
    have hih := ih (i + 1) (by omega)
    have hx : OfS (l : Int) (X.getD i 0) := by
      have : X.getD i 0 = X[i] := by rw [List.getD_eq_getElem?_getD, List.getElem?_eq_getElem hi']; rfl
      rw [this]; exact hX _ (List.getElem_mem hi')
    have hy : OfS (l : Int) (Y.getD i 0) := by
      have h2 : i < Y.length := by omega
      have : Y.getD i 0 = Y[i] := by rw [List.getD_eq_getElem?_getD, List.getElem?_eq_getElem h2]; rfl
      rw [this]; exact hY _ (List.getElem_mem h2)
    have c1 : (i : Int) < ((X.map toS).length : Int) := by rw [List.length_map]; omega
    have c2 : (i : Int) < ((Y.map toS).length : Int) := by rw [List.length_map]; omega
    have hs : sumN (fun j => X.getD j 0 * Y.getD j 0) (i + 1) = sumN (fun j => X.getD j 0 * Y.getD j 0) i + X.getD i 0 * Y.getD i 0 := by rw [sumN]
    rw [hs] at hih
    refine Ev.step (fun k => by rw [tower_Dot.l5]) (Ev.pos (by omega) (Ev.pos (Int.natCast_nonneg _) (Ev.pos c1 ?_)))
    simp only [rdS, toS_f0, toS_f1]
    refine Ev.bnd (of_ev (l : Int) _) (Ev.neg (by simpa using hx) (Ev.pos (Int.natCast_nonneg _) (Ev.pos c2 (Ev.bnd (of_ev (l : Int) _) ?_))))
    refine Ev.neg (by simpa using hy) (Ev.pos (Int.natCast_nonneg _) (Ev.pos c1 (Ev.pos (Int.natCast_nonneg _) (Ev.pos c2 ?_))))
    refine Ev.bnd (Mul_ev hl (allS_getD hX i) (allS_getD hY i)) (Ev.bnd (Add_ev _ _) ?_)
    simp only [w64_succ hi' (show X.length ≤ 4611686018427387904 by omega)]
    exact hih
theorem Dot_ev {l : Nat} (hl : l ≤ 7) (X Y : List E) (hX : AllS (l : Int) X) (hY : AllS (l : Int) Y) (hlen : X.length = Y.length) (hn : X.length ≤ 1000000) :
    Ev (fun k => tower_Dot.f k (l : Int) (X.map toS) (Y.map toS)) (toS (sumN (fun j => X.getD j 0 * Y.getD j 0) X.length)) := by
  unfold tower_Dot.f
  rw [List.length_map, List.length_map]
  refine Ev.pos (by omega) ?_
  have := dot_l0 hl X Y hX hY hlen hn X.length 0 (Nat.zero_add _)
  have e : sumN (fun j => X.getD j 0 * Y.getD j 0) 0 = 0 := rfl
  rw [e, hi_zero, lo_zero] at this
  exact this
end Go.Proofs.Ytfmjodlcjaflfaa.Sp
namespace Go.Proofs.Ytfmjodlcjaflfaa.Sp
open Go.Proofs.Ytfmjodlcjaflfaa.V.B Go.RowKit Go.Proofs.Ytfmjodlcjaflfaa.B Go.Proofs.Ytfmjodlcjaflfaa.V.B.Ar Go.Proofs.Ytfmjodlcjaflfaa.V.B.Tw
set_option linter.unusedVariables false
set_option linter.unusedSimpArgs false
end Go.Proofs.Ytfmjodlcjaflfaa.Sp
namespace Go.Proofs.Ytfmjodlcjaflfaa.Sp
open Go.Proofs.Ytfmjodlcjaflfaa.V.B Go.RowKit Go.Proofs.Ytfmjodlcjaflfaa.B Go.Proofs.Ytfmjodlcjaflfaa.V.B.Ar Go.Proofs.Ytfmjodlcjaflfaa.V.B.Tw
set_option linter.unusedVariables false
set_option linter.unusedSimpArgs false
end Go.Proofs.Ytfmjodlcjaflfaa.Sp
namespace Go.Proofs.Ytfmjodlcjaflfaa.Sp
open Go.Proofs.Ytfmjodlcjaflfaa.V.B Go.RowKit Go.Proofs.Ytfmjodlcjaflfaa.B Go.Proofs.Ytfmjodlcjaflfaa.V.B.Ar Go.Proofs.Ytfmjodlcjaflfaa.V.B.Tw
set_option linter.unusedVariables false
theorem two_ev (l : Nat) (hl : l ≤ 60) : Ev (fun k => steepleref15_Two.f k (l : Int)) ((2 ^ l : Nat) : Int) := by
  unfold steepleref15_Two.f
  refine Ev.down (g := fun i k => steepleref15_Two.l3 k (l : Int) ((2 ^ i : Nat) : Int) (i : Int)) (n := l) ?_ fun i hi' hih => ?_
  · refine Ev.step (fun k => by rw [steepleref15_Two.l3]) ?_
    exact Ev.neg (Int.lt_irrefl _) (Ev.ret _)
  · refine Ev.step (fun k => by rw [steepleref15_Two.l3]) (Ev.pos (by omega) ?_)
    have hp : (2 : Nat) ^ i ≤ 2 ^ 60 := Nat.pow_le_pow_right (by decide) (by omega)
    have e : wrap64 (2 * ((2 ^ i : Nat) : Int)) = ((2 ^ (i + 1) : Nat) : Int) := by
      rw [Nat.pow_succ]
      have h60 : (2 : Nat) ^ 60 = 1152921504606846976 := by decide
      generalize 2 ^ i = p at hp ⊢
      rw [w64_id (by omega) (by omega)]; omega
    rw [e, w64_succ hi' (by omega)]
    exact hih
end Go.Proofs.Ytfmjodlcjaflfaa.Sp
namespace Go.Proofs.Ytfmjodlcjaflfaa.Sp
open Go.Proofs.Ytfmjodlcjaflfaa.V.B Go.RowKit Go.Proofs.Ytfmjodlcjaflfaa.B Go.Proofs.Ytfmjodlcjaflfaa.V.B.Ar Go.Proofs.Ytfmjodlcjaflfaa.V.B.Tw
set_option linter.unusedVariables false
/-- What hinders parts and a point. -/
def mayE (L : Int) (X P : List E) : Int := if LvS L then (if X.length = 2 ^ L.toNat ∧ (P.length : Int) = L then (if AllS L X ∧ AllS L P then 0 else 5) else 6) else 1
theorem mayE_len {L : Int} (hL : LvS L) {X P : List E} (h : ¬ (X.length = 2 ^ L.toNat ∧ (P.length : Int) = L)) : mayE L X P = 6 := by unfold mayE; rw [if_pos hL, if_neg h]
theorem mayE_all {L : Int} (hL : LvS L) {X P : List E} (h : X.length = 2 ^ L.toNat ∧ (P.length : Int) = L) (g : ¬ (AllS L X ∧ AllS L P)) : mayE L X P = 5 := by unfold mayE; rw [if_pos hL, if_pos h, if_neg g]
theorem mayE_ok {L : Int} (hL : LvS L) {X P : List E} (h : X.length = 2 ^ L.toNat ∧ (P.length : Int) = L) (g : AllS L X ∧ AllS L P) : mayE L X P = 0 := by unfold mayE; rw [if_pos hL, if_pos h, if_pos g]
theorem may_in {L : Int} {X P : List E} (h : mayE L X P = 0) : ∃ l : Nat, L = (l : Int) ∧ l ≤ 7 ∧ X.length = 2 ^ l ∧ P.length = l ∧ AllS (l : Int) X ∧ AllS (l : Int) P := by
  unfold mayE at h
  split at h
  · next hL =>
    split at h
    · next hlen =>
      split at h
      · next hall =>
        obtain ⟨l, rfl⟩ := Int.eq_ofNat_of_zero_le hL.1
        have h1 := hlen.1
        rw [Int.toNat_natCast] at h1
        exact ⟨l, rfl, by have := hL.2; omega, h1, by have := hlen.2; omega, hall.1, hall.2⟩
      · omega
    · omega
  · omega
theorem weights_all {l : Nat} (hl : l ≤ 7) (P : List E) (hP : AllS (l : Int) P) : AllS (l : Int) (weightsL P) := tabL_all hl _ _ (fun i _ => weight_in hl P i (inL_all hP))
theorem value_dot (X P : List E) (h : X.length = 2 ^ P.length) : sumN (fun j => (weightsL P).getD j 0 * X.getD j 0) (weightsL P).length = value X P := by
  unfold value
  have hw : (weightsL P).length = 2 ^ P.length := tabL_length _ _
  rw [hw, h]
  apply sumN_congr
  intro i hi'
  have : (weightsL P).getD i 0 = weight P i := tabL_getD _ _ i hi'
  rw [this, mul_comm]
/-- Parts, batched. -/
def batch (X P : List E) : E := sumN (fun u => weight P u * turnN X X.length u) X.length
end Go.Proofs.Ytfmjodlcjaflfaa.Sp
namespace Go.Proofs.Ytfmjodlcjaflfaa.Sp
open Go.Proofs.Ytfmjodlcjaflfaa.V.B Go.RowKit Go.Proofs.Ytfmjodlcjaflfaa.B Go.Proofs.Ytfmjodlcjaflfaa.V.B.Ar Go.Proofs.Ytfmjodlcjaflfaa.V.B.Tw
set_option linter.unusedVariables false
set_option linter.unusedSimpArgs false
def logFrom (n : Int) (k : Nat) : Nat → Int
  | 0 => -1
  | d + 1 => if n = ((2 ^ k : Nat) : Int) then (k : Int) else logFrom n (k + 1) d
def logI (n : Int) : Int := logFrom n 0 17
theorem logFrom_pow : ∀ (d k m : Nat), k ≤ m → m < k + d → logFrom ((2 ^ m : Nat) : Int) k d = (m : Int)
  | 0, k, m, h1, h2 => by omega
  | d + 1, k, m, h1, h2 => by
    rw [logFrom]
    by_cases c : m = k
    · rw [if_pos (by rw [c]), c]
    · rw [if_neg ?_, logFrom_pow d (k + 1) m (by omega) (by omega)]
      intro e
      have e' : 2 ^ m = 2 ^ k := by omega
      exact c ((Nat.pow_right_inj (by decide)).1 e')
theorem logI_pow {m : Nat} (h : m ≤ 16) : logI ((2 ^ m : Nat) : Int) = (m : Int) := logFrom_pow 17 0 m (by omega) (by omega)
theorem logFrom_inv : ∀ (d k : Nat) (n : Int), logFrom n k d = -1 ∨ ∃ m : Nat, k ≤ m ∧ m < k + d ∧ n = ((2 ^ m : Nat) : Int) ∧ logFrom n k d = (m : Int)
  | 0, k, n => Or.inl rfl
  | d + 1, k, n => by
    rw [logFrom]
    by_cases c : n = ((2 ^ k : Nat) : Int)
    · rw [if_pos c]; exact Or.inr ⟨k, by omega, by omega, c, rfl⟩
    · rw [if_neg c]
      rcases logFrom_inv d (k + 1) n with h | ⟨m, h1, h2, h3, h4⟩
      · exact Or.inl h
      · exact Or.inr ⟨m, by omega, by omega, h3, h4⟩
theorem logI_inv (n : Int) : logI n = -1 ∨ ∃ m : Nat, m ≤ 16 ∧ n = ((2 ^ m : Nat) : Int) ∧ logI n = (m : Int) := by
  rcases logFrom_inv 17 0 n with h | ⟨m, _, h2, h3, h4⟩
  · exact Or.inl h
  · exact Or.inr ⟨m, by omega, h3, h4⟩
end Go.Proofs.Ytfmjodlcjaflfaa.Sp
namespace Go.Proofs.Ytfmjodlcjaflfaa.Sp
open Go.Proofs.Ytfmjodlcjaflfaa.V.B Go.RowKit Go.Proofs.Ytfmjodlcjaflfaa.B Go.Proofs.Ytfmjodlcjaflfaa.V.B.Ar Go.Proofs.Ytfmjodlcjaflfaa.V.B.Tw
set_option linter.unusedVariables false
set_option linter.unusedSimpArgs false
theorem Log_l0 (n : Int) : ∀ (d k : Nat), k + d = 17 → Ev (fun q => cube_Log.l2 q n (k : Int)) (logFrom n k d) := by
  intro d
  induction d with
  | zero =>
    intro k hk
    have h17 : ¬ ((k : Int) < 17) := by omega
    refine Ev.step (fun q => by rw [cube_Log.l2]) (Ev.neg h17 ?_)
    exact Ev.ret' rfl
  | succ d ih =>
    intro k hk
    refine Ev.step (fun q => by rw [cube_Log.l2]) (Ev.pos (by omega) (Ev.pos (Int.natCast_nonneg _) ?_))
    rw [shl_i64 k (by omega), logFrom]
    by_cases c : n = ((2 ^ k : Nat) : Int)
    · rw [if_pos c]; exact Ev.pos c (Ev.ret _)
    · rw [if_neg c]
      refine Ev.neg c ?_
      simp only [w64_succ (show k < 17 by omega) (by decide)]
      exact ih (k + 1) (by omega)
theorem Log_ev (n : Int) : Ev (fun q => cube_Log.f q n) (logI n) := Log_l0 n 17 0 (by omega)
end Go.Proofs.Ytfmjodlcjaflfaa.Sp
namespace Go.Proofs.Ytfmjodlcjaflfaa.Sp
open Go.Proofs.Ytfmjodlcjaflfaa.V.B Go.RowKit Go.Proofs.Ytfmjodlcjaflfaa.B Go.Proofs.Ytfmjodlcjaflfaa.V.B.Ar Go.Proofs.Ytfmjodlcjaflfaa.V.B.Tw
set_option linter.unusedVariables false
/-- What hinders bits. -/
def askB (L : Int) (n : Nat) : Int := if LvS L then (if logI (n : Int) < L ∨ logI (n : Int) > 12 then 6 else 0) else 1
theorem ask23_ev (L : Int) (B : List Bool) : Ev (fun k => ring_ask.f k L B) (askB L B.length) := by
  unfold ring_ask.f
  by_cases hL : LvS L
  · obtain ⟨v, hv, hw⟩ := wide_in hL
    refine Ev.bnd hw (Ev.neg hv (Ev.bnd (Log_ev _) ?_))
    by_cases c1 : logI (B.length : Int) < L
    · have e : askB L B.length = 6 := by unfold askB; rw [if_pos hL, if_pos (.inl c1)]
      rw [e]
      exact Ev.pos c1 (Ev.ret _)
    · refine Ev.neg c1 ?_
      by_cases c2 : logI (B.length : Int) > 12
      · have e : askB L B.length = 6 := by unfold askB; rw [if_pos hL, if_pos (.inr c2)]
        rw [e]
        exact Ev.pos c2 (Ev.ret _)
      · have e : askB L B.length = 0 := by unfold askB; rw [if_pos hL, if_neg (by omega)]
        rw [e]
        exact Ev.neg c2 (Ev.ret _)
  · have e : askB L B.length = 1 := if_neg hL
    rw [e]
    exact Ev.bnd (wide_out hL) (Ev.pos rfl (Ev.ret _))
theorem ask_in {L : Int} {n : Nat} (h : askB L n = 0) : ∃ l m : Nat, L = (l : Int) ∧ l ≤ 7 ∧ l ≤ m ∧ m ≤ 12 ∧ n = 2 ^ m ∧ logI (n : Int) = (m : Int) := by
  unfold askB at h
  split at h
  · next hL =>
    split at h
    · omega
    · next hc =>
      obtain ⟨l, rfl⟩ := Int.eq_ofNat_of_zero_le hL.1
      rcases logI_inv (n : Int) with g | ⟨m, h1, h2, h3⟩
      · rw [g] at hc; omega
      · rw [h3] at hc
        exact ⟨l, m, rfl, by have := hL.2; omega, by omega, by omega, by omega, h3⟩
  · omega
theorem shlP (a w : Nat) (h : w ≤ 62) (hp : a * 2 ^ w ≤ 4611686018427387904) : shl .i64 (a : Int) (w : Int) = ((a * 2 ^ w : Nat) : Int) := by
  unfold shl
  have h64 : IntKind.i64.bits = 64 := rfl
  rw [h64, Int.toNat_natCast, Nat.min_eq_left (by omega)]
  have hc : (a : Int) * 2 ^ w = ((a * 2 ^ w : Nat) : Int) := by simp
  rw [hc]
  generalize a * 2 ^ w = p at hp
  exact i64_id (by omega) (by omega)
/-- One column, added where a test says so. -/
def pAdd (f : Nat → E) (p : Nat → Bool) (y : E) (i k : Nat) : E := f k + pick (decide (k < i) && p k) y
theorem pAdd_zero (f : Nat → E) (p : Nat → Bool) (y : E) (k : Nat) : pAdd f p y 0 k = f k := by
  unfold pAdd
  rw [decide_eq_false (Nat.not_lt_zero k), Bool.false_and, pick_false, add_zero]
theorem pAdd_at (f : Nat → E) (p : Nat → Bool) (y : E) (i : Nat) : pAdd f p y i i = f i := by
  unfold pAdd
  rw [decide_eq_false (Nat.lt_irrefl i), Bool.false_and, pick_false, add_zero]
theorem pAdd_next (f : Nat → E) (p : Nat → Bool) (y : E) (i k : Nat) (h : k ≠ i) : pAdd f p y (i + 1) k = pAdd f p y i k := by
  unfold pAdd
  have : decide (k < i + 1) = decide (k < i) := by rw [decide_eq_decide]; omega
  rw [this]
theorem pAdd_now (f : Nat → E) (p : Nat → Bool) (y : E) (i : Nat) : pAdd f p y (i + 1) i = f i + pick (p i) y := by
  unfold pAdd
  rw [decide_eq_true (Nat.lt_succ_self i), Bool.true_and]
theorem pAdd_end (f : Nat → E) (p : Nat → Bool) (y : E) (n k : Nat) (h : k < n) : pAdd f p y n k = f k + pick (p k) y := by
  unfold pAdd
  rw [decide_eq_true h, Bool.true_and]
/-- The parts, as far as one has come. -/
def partN (N : Nat) (B : List Bool) (H : List E) (m v : Nat) : E := sumN (fun x => pick (B.getD (x * N + v) false) (weight H x)) m
def partsL (l : Nat) (B : List Bool) (H : List E) : List E := tabL (2 ^ l) (partN (2 ^ l) B H (2 ^ H.length))
theorem parts_l1 (l : Nat) (hl : l ≤ 7) (B : List Bool) (x m : Nat) (hB : B.length = m * 2 ^ l) (hx : x < m) (hm : m ≤ 4096) (f : Nat → E) (w : E) (WS : List S34) (wl : Int) {R : List S34 × Int}
    (h : Ev (fun k => ring_Parts.l10 k (l : Int) B wl (wrap64 ((x : Int) + 1)) ((tabL (2 ^ l) (fun v => f v + pick (B.getD (x * 2 ^ l + v) false) w)).map toS) WS) R) :
    ∀ (d v : Nat), v + d = 2 ^ l → Ev (fun k => ring_Parts.l13 k (l : Int) B (x : Int) wl (x : Int) ((2 ^ l : Nat) : Int) (v : Int) ((tabL (2 ^ l) (pAdd f (fun v => B.getD (x * 2 ^ l + v) false) w v)).map toS) (hi w) (lo w) WS) R := by
  have h128 := w128 hl
  have hxm : (x + 1) * 2 ^ l ≤ m * 2 ^ l := Nat.mul_le_mul_right _ hx
  have hmm : m * 2 ^ l ≤ 4096 * 128 := Nat.mul_le_mul hm h128
  rw [Nat.succ_mul] at hxm
  have hx2 : x * 2 ^ l ≤ 4096 * 128 := Nat.mul_le_mul (by omega) h128
  have hsh : shl .i64 (x : Int) (l : Int) = ((x * 2 ^ l : Nat) : Int) := shlP x l (by omega) (Nat.le_trans hx2 (by decide))
  intro d
  induction d with
  | zero =>
    intro v hv
    have : v = 2 ^ l := by omega
    subst this
    refine Ev.step (fun k => by rw [ring_Parts.l13]) (Ev.neg (Int.lt_irrefl _) ?_)
    rw [tabL_congr _ (fun q hq => pAdd_end f (fun v => B.getD (x * 2 ^ l + v) false) w (2 ^ l) q hq)]
    exact h
  | succ d ih =>
    intro v hv
    have hv' : v < 2 ^ l := by omega
    have hih := ih (v + 1) (by omega)
    have hg : (tabL (2 ^ l) (pAdd f (fun v => B.getD (x * 2 ^ l + v) false) w v)).getD v 0 = f v := by rw [tabL_getD _ _ v hv', pAdd_at]
    have c3 : (v : Int) < (((tabL (2 ^ l) (pAdd f (fun v => B.getD (x * 2 ^ l + v) false) w v)).map toS).length : Int) := by rw [List.length_map, tabL_length]; omega
    have hadd : wrap64 (((x * 2 ^ l : Nat) : Int) + (v : Int)) = ((x * 2 ^ l + v : Nat) : Int) := w64_add (by omega) (by omega)
    have hs : wrap64 ((v : Int) + 1) = ((v + 1 : Nat) : Int) := w64_succ hv' (by omega)
    refine Ev.step (fun k => by rw [ring_Parts.l13]) (Ev.pos (by omega) (Ev.pos (Int.natCast_nonneg _) ?_))
    rw [hsh, hadd, hs]
    have d1 : (0 : Int) ≤ ((x * 2 ^ l + v : Nat) : Int) := Int.natCast_nonneg _
    have d2 : ((x * 2 ^ l + v : Nat) : Int) < (B.length : Int) := Int.ofNat_lt.2 (by rw [hB]; exact Nat.lt_of_lt_of_le (Nat.add_lt_add_left hv' _) hxm)
    refine Ev.pos d1 ?_
    refine Ev.pos d2 ?_
    have hrd : rdB B ((x * 2 ^ l + v : Nat) : Int) = B.getD (x * 2 ^ l + v) false := rfl
    rw [hrd]
    cases c : B.getD (x * 2 ^ l + v) false with
    | true =>
      refine Ev.pos rfl (Ev.pos (Int.natCast_nonneg _) (Ev.pos c3 ?_))
      rw [rdS, hg, toS_mk]
      refine Ev.bnd (Add_ev _ _) (Ev.pos (Int.natCast_nonneg _) (Ev.pos c3 ?_))
      have e : ((tabL (2 ^ l) (pAdd f (fun v => B.getD (x * 2 ^ l + v) false) w v)).map toS).set (v : Int).toNat (toS (f v + w)) = (tabL (2 ^ l) (pAdd f (fun v => B.getD (x * 2 ^ l + v) false) w (v + 1))).map toS := by
        rw [Int.toNat_natCast, map_set]
        have hn2 := pAdd_now f (fun v => B.getD (x * 2 ^ l + v) false) w v
        rw [c, pick_true] at hn2
        rw [← hn2, tabL_set _ _ _ v hv' (fun q _ hne => pAdd_next f (fun v => B.getD (x * 2 ^ l + v) false) w v q hne)]
      rw [e]
      exact hih
    | false =>
      refine Ev.neg Bool.false_ne_true ?_
      have e : tabL (2 ^ l) (pAdd f (fun v => B.getD (x * 2 ^ l + v) false) w (v + 1)) = tabL (2 ^ l) (pAdd f (fun v => B.getD (x * 2 ^ l + v) false) w v) := by
        apply tabL_congr
        intro q _
        by_cases cq : q = v
        · subst cq; rw [pAdd_now, c, pick_false, add_zero, pAdd_at]
        · exact pAdd_next f (fun v => B.getD (x * 2 ^ l + v) false) w v q cq
      rw [← e]; exact hih
theorem parts_l0 (l : Nat) (hl : l ≤ 7) (B : List Bool) (H : List E) (m : Nat) (hH : m = 2 ^ H.length) (hB : B.length = m * 2 ^ l) (hm : m ≤ 4096) : ∀ (d x : Nat), x + d = m →
    Ev (fun k => ring_Parts.l10 k (l : Int) B (m : Int) (x : Int) ((tabL (2 ^ l) (partN (2 ^ l) B H x)).map toS) ((weightsL H).map toS)) ((partsL l B H).map toS, 0) := by
  have hwl : (weightsL H).length = m := by rw [hH]; exact tabL_length _ _
  intro d
  induction d with
  | zero =>
    intro x hid
    have : x = m := by omega
    subst this
    refine Ev.step (fun k => by rw [ring_Parts.l10]) ?_
    refine Ev.neg (Int.lt_irrefl _) (Ev.ret' ?_)
    unfold partsL; rw [← hH]
  | succ d ih =>
    intro x hid
    have hx : x < m := by omega
    have hih := ih (x + 1) (by omega)
    have c3 : (x : Int) < (((weightsL H).map toS).length : Int) := by rw [List.length_map, hwl]; omega
    have hw : (weightsL H).getD x 0 = weight H x := tabL_getD _ _ x (by rw [← hH]; exact hx)
    refine Ev.step (fun k => by rw [ring_Parts.l10]) (Ev.pos (by omega) (Ev.pos (Int.natCast_nonneg _) (Ev.pos c3 ?_)))
    rw [rdS, hw, toS_f0, toS_f1]
    rw [List.length_map, tabL_length]
    have e0 : tabL (2 ^ l) (partN (2 ^ l) B H x) = tabL (2 ^ l) (pAdd (partN (2 ^ l) B H x) (fun v => B.getD (x * 2 ^ l + v) false) (weight H x) 0) := tabL_congr _ (fun q _ => (pAdd_zero _ _ _ q).symm)
    rw [e0]
    refine parts_l1 l hl B x m hB hx hm (partN (2 ^ l) B H x) (weight H x) _ _ ?_ (2 ^ l) 0 (Nat.zero_add _)
    rw [w64_succ hx (by omega)]
    have e1 : tabL (2 ^ l) (fun v => partN (2 ^ l) B H x v + pick (B.getD (x * 2 ^ l + v) false) (weight H x)) = tabL (2 ^ l) (partN (2 ^ l) B H (x + 1)) := tabL_congr _ (fun q _ => by
      show _ = sumN _ (x + 1)
      rw [sumN]; rfl)
    rw [e1]
    exact hih
/-- The parts, or the error. -/
def partsE (L : Int) (B : List Bool) (H : List E) : Int := if askB L B.length = 0 then (if (H.length : Int) = logI (B.length : Int) - L then (if AllS L H then 0 else 5) else 6) else askB L B.length
theorem parts_in {L : Int} {B : List Bool} {H : List E} (h : partsE L B H = 0) : ∃ l : Nat, L = (l : Int) ∧ l ≤ 7 ∧ l + H.length ≤ 12 ∧ B.length = 2 ^ H.length * 2 ^ l ∧ AllS (l : Int) H := by
  unfold partsE at h
  by_cases c : askB L B.length = 0
  · rw [if_pos c] at h
    obtain ⟨l, m, rfl, hl, hlm, hm, hn, hg⟩ := ask_in c
    rw [hg] at h
    by_cases c2 : (H.length : Int) = (m : Int) - (l : Int)
    · rw [if_pos c2] at h
      by_cases c3 : AllS (l : Int) H
      · exact ⟨l, rfl, hl, by omega, by rw [hn, ← Nat.pow_add]; congr 1; omega, c3⟩
      · rw [if_neg c3] at h; cases h
    · rw [if_neg c2] at h; cases h
  · rw [if_neg c] at h; exact absurd h c
def partsO (L : Int) (B : List Bool) (H : List E) : List E := if partsE L B H = 0 then partsL L.toNat B H else []
theorem Parts_ev (L : Int) (B : List Bool) (H : List E) : Ev (fun k => ring_Parts.f k L B (H.map toS)) ((partsO L B H).map toS, partsE L B H) := by
  unfold ring_Parts.f
  refine Ev.bnd (ask23_ev L B) ?_
  by_cases c : askB L B.length = 0
  rotate_left
  · have e1 : partsE L B H = askB L B.length := if_neg c
    have e2 : partsO L B H = [] := if_neg (by rw [e1]; exact c)
    rw [e1, e2]
    exact Ev.neg c (Ev.ret _)
  refine Ev.pos c (Ev.bnd (Log_ev _) ?_)
  obtain ⟨l, m, rfl, hl, hlm, hm, hn, hg⟩ := ask_in c
  rw [hg, List.length_map, w64_id (x := (m : Int) - (l : Int)) (by omega) (by omega)]
  by_cases c2 : (H.length : Int) = (m : Int) - (l : Int)
  rotate_left
  · have e1 : partsE (l : Int) B H = 6 := by unfold partsE; rw [if_pos c, hg, if_neg c2]
    have e2 : partsO (l : Int) B H = [] := if_neg (by rw [e1]; decide)
    rw [e1, e2]
    exact Ev.neg c2 (Ev.ret _)
  refine Ev.pos c2 (Ev.bnd (ring_of_ev (l : Int) H (by omega)) ?_)
  by_cases c3 : AllS (l : Int) H
  rotate_left
  · have e1 : partsE (l : Int) B H = 5 := by unfold partsE; rw [if_pos c, hg, if_pos c2, if_neg c3]
    have e2 : partsO (l : Int) B H = [] := if_neg (by rw [e1]; decide)
    rw [e1, e2]
    exact Ev.pos (by rw [decide_eq_false c3]; rfl) (Ev.ret _)
  have e1 : partsE (l : Int) B H = 0 := by unfold partsE; rw [if_pos c, hg, if_pos c2, if_pos c3]
  have e2 : partsO (l : Int) B H = partsL l B H := by unfold partsO; rw [if_pos e1, Int.toNat_natCast]
  rw [e1, e2]
  have h128 := w128 hl
  have hw := Weights_ev (l : Int) H
  have ew : weightsO (l : Int) H = weightsL H := if_pos ⟨⟨by omega, by omega⟩, by omega, c3⟩
  rw [ew] at hw
  have hwl : (weightsL H).length = 2 ^ H.length := tabL_length _ _
  refine Ev.neg (by rw [decide_eq_true c3]; decide) (Ev.pos (Int.natCast_nonneg _) ?_)
  rw [shl_i64 l (by omega)]
  refine Ev.pos (Int.natCast_nonneg _) ?_
  refine Ev.pos (by omega) (Ev.bnd hw ?_)
  rw [List.length_map, hwl, Int.toNat_natCast, rep_zero, tabL_replicate]
  have e0 : tabL (2 ^ l) (fun _ => (0 : E)) = tabL (2 ^ l) (partN (2 ^ l) B H 0) := rfl
  rw [e0]
  have hp : (2 : Nat) ^ H.length ≤ 4096 := Nat.pow_le_pow_right (n := 2) (by decide) (show H.length ≤ 12 by omega)
  exact parts_l0 l hl B H (2 ^ H.length) rfl (by rw [hn, ← Nat.pow_add]; congr 1; omega) hp (2 ^ H.length) 0 (Nat.zero_add _)
theorem partsL_length (l : Nat) (B : List Bool) (H : List E) : (partsL l B H).length = 2 ^ l := tabL_length _ _
theorem partsL_all {l : Nat} (hl : l ≤ 7) (B : List Bool) {H : List E} (hH : AllS (l : Int) H) : AllS (l : Int) (partsL l B H) :=
  tabL_all hl _ _ (fun v _ => sumN_in _ _ (fun x _ => pick_in _ (weight_in hl H x (inL_all hH))))
end Go.Proofs.Ytfmjodlcjaflfaa.Sp
namespace Go.Proofs.Ytfmjodlcjaflfaa.Sp
open Go.Proofs.Ytfmjodlcjaflfaa.V.B Go.RowKit Go.Proofs.Ytfmjodlcjaflfaa.B Go.Proofs.Ytfmjodlcjaflfaa.V.B.Ar Go.Proofs.Ytfmjodlcjaflfaa.V.B.Tw
set_option linter.unusedVariables false
def madeN (M : List E) (x : E) (n : Nat) : E := sumN (fun i => pick (hasB x i) (M.getD i 0)) n
/-- What a map makes of an element. -/
def madeX (M : List E) (x : E) : E := madeN M x M.length
theorem getD_mapG {α β : Type} (f : α → β) (d : α) (e : β) (X : List α) (i : Nat) (h : i < X.length) : (X.map f).getD i e = f (X.getD i d) := by
  rw [List.getD_eq_getElem?_getD, List.getD_eq_getElem?_getD, List.getElem?_map, List.getElem?_eq_getElem h]; rfl
theorem madeN_succ (M : List E) (x : E) (i : Nat) : madeN M x (i + 1) = madeN M x i + pick (hasB x i) (M.getD i 0) := by unfold madeN; rw [sumN]
theorem make1_l0 (M : List E) (hM : M.length ≤ 128) (x : E) : ∀ (d i : Nat), i + d = M.length → Ev (fun k => span_make1.l3 k (M.map toS) (M.length : Int) (i : Int) (hi x) (lo x) 0 0 (hi (madeN M x i)) (lo (madeN M x i))) (toS (madeX M x)) := by
  intro d
  induction d with
  | zero =>
    intro i hid
    have : i = M.length := by omega
    subst this
    refine Ev.step (fun k => by rw [span_make1.l3]) ?_
    exact Ev.neg (Int.lt_irrefl _) (Ev.ret _)
  | succ d ih =>
    intro i hid
    have hi' : i < M.length := by omega
    have hih := ih (i + 1) (by omega)
    have hs := madeN_succ M x i
    have c3 : (i : Int) < ((M.map toS).length : Int) := by rw [List.length_map]; omega
    refine Ev.step (fun k => by rw [span_make1.l3]) (Ev.pos (by omega) (Ev.pos (Int.natCast_nonneg _) (Ev.pos c3 ?_)))
    rw [w64_succ hi' (show M.length ≤ 4611686018427387904 by omega), toS_mk, toS_mk, rdS]
    refine Ev.bnd (spanHas_ev x i (by omega)) ?_
    cases c : hasB x i with
    | true =>
      rw [c, pick_true] at hs
      rw [hs] at hih
      exact Ev.pos rfl (Ev.bnd (Add_ev _ _) hih)
    | false =>
      rw [c, pick_false, add_zero] at hs
      rw [hs] at hih
      exact Ev.neg Bool.false_ne_true hih
theorem make1_ev (M : List E) (hM : M.length ≤ 128) (x : E) : Ev (fun k => span_make1.f k (M.map toS) (toS x)) (toS (madeX M x)) := by
  unfold span_make1.f
  rw [List.length_map]
  have := make1_l0 M hM x M.length 0 (Nat.zero_add _)
  have e0 : madeN M x 0 = 0 := rfl
  rw [e0, hi_zero, lo_zero] at this
  exact this
/-- What a map makes, or the error. -/
def applyE (M : List E) (x : E) : Int := if M.length > 128 then 1 else if val x < 2 ^ M.length then 0 else 6
def applyX (M : List E) (x : E) : E := if applyE M x = 0 then madeX M x else 0
theorem apply_cases (M : List E) (x : E) : (M.length > 128 ∧ applyE M x = 1 ∧ applyX M x = 0) ∨ (M.length ≤ 128 ∧ val x < 2 ^ M.length ∧ applyE M x = 0 ∧ applyX M x = madeX M x) ∨ (M.length ≤ 128 ∧ ¬ val x < 2 ^ M.length ∧ applyE M x = 6 ∧ applyX M x = 0) := by
  by_cases c : M.length > 128
  · have e : applyE M x = 1 := if_pos c
    exact .inl ⟨c, e, if_neg (by rw [e]; decide)⟩
  by_cases c2 : val x < 2 ^ M.length
  · have e : applyE M x = 0 := by unfold applyE; rw [if_neg c, if_pos c2]
    exact .inr (.inl ⟨by omega, c2, e, if_pos e⟩)
  · have e : applyE M x = 6 := by unfold applyE; rw [if_neg c, if_neg c2]
    exact .inr (.inr ⟨by omega, c2, e, if_neg (by rw [e]; decide)⟩)
theorem Apply_ev (M : List E) (x : E) : Ev (fun k => span_Apply.f k (M.map toS) (toS x)) (toS (applyX M x), applyE M x) := by
  unfold span_Apply.f
  rw [List.length_map]
  have hb := blen_le (val x) M.length
  rcases apply_cases M x with ⟨c, e1, e2⟩ | ⟨c, c2, e1, e2⟩ | ⟨c, c2, e1, e2⟩ <;> rw [e1, e2]
  · refine Ev.pos (by omega) (Ev.ret' ?_)
    rw [toS_zero]; rfl
  · have h2 := hb.2 c2
    exact Ev.neg (by omega) (Ev.bnd (lead_ev x) (Ev.neg (by omega) (Ev.bnd (make1_ev M c x) (Ev.ret _))))
  · have h2 : ¬ blen (val x) ≤ M.length := fun h => c2 (hb.1 h)
    refine Ev.neg (by omega) (Ev.bnd (lead_ev x) (Ev.pos (by omega) (Ev.ret' ?_)))
    rw [toS_zero]; rfl
/-- One map behind another one, or the error. -/
def thenE (A B : List E) : Int := if A.length > 128 ∨ B.length > 128 then 1 else if InN B.length A then 0 else 6
def thenR (A B : List E) : List E := if thenE A B = 0 then A.map (madeX B) else []
theorem then_cases (A B : List E) : ((A.length > 128 ∨ B.length > 128) ∧ thenE A B = 1 ∧ thenR A B = []) ∨ ((A.length ≤ 128 ∧ B.length ≤ 128) ∧ InN B.length A ∧ thenE A B = 0 ∧ thenR A B = A.map (madeX B)) ∨ ((A.length ≤ 128 ∧ B.length ≤ 128) ∧ ¬ InN B.length A ∧ thenE A B = 6 ∧ thenR A B = []) := by
  by_cases c : A.length > 128 ∨ B.length > 128
  · have e : thenE A B = 1 := if_pos c
    exact .inl ⟨c, e, if_neg (by rw [e]; decide)⟩
  by_cases c2 : InN B.length A
  · have e : thenE A B = 0 := by unfold thenE; rw [if_neg c, if_pos c2]
    exact .inr (.inl ⟨by omega, c2, e, if_pos e⟩)
  · have e : thenE A B = 6 := by unfold thenE; rw [if_neg c, if_neg c2]
    exact .inr (.inr ⟨by omega, c2, e, if_neg (by rw [e]; decide)⟩)
/-- One map behind another one makes what both make, one behind the other. -/
theorem made_made (A B : List E) (x : E) : madeX B (madeX A x) = madeX (A.map (madeX B)) x := by
  have h1 : madeX B (madeX A x) = sumN (fun i => sumN (fun u => pick (hasB x u) (pick (hasB (A.getD u 0) i) (B.getD i 0))) A.length) B.length := by
    unfold madeX madeN
    apply sumN_congr
    intro i _
    rw [pick_hasB_sum]
    exact sumN_congr _ (fun u _ => pick_hasB_pick _ _ _ _)
  have h2 : madeX (A.map (madeX B)) x = sumN (fun u => pick (hasB x u) (madeX B (A.getD u 0))) A.length := by
    unfold madeX madeN
    rw [List.length_map]
    apply sumN_congr
    intro u hu
    rw [getD_mapG (fun x => sumN (fun i => pick (hasB x i) (B.getD i 0)) B.length) 0 0 A u hu]
  rw [h1, h2, sumN_swap]
  apply sumN_congr
  intro u _
  unfold madeX madeN
  rw [pick_sum]
theorem val_sum_lt (m : Nat) (f : Nat → E) : ∀ n, (∀ i, i < n → val (f i) < 2 ^ m) → val (sumN f n) < 2 ^ m
  | 0, _ => by rw [sumN, val_zero]; exact Nat.two_pow_pos m
  | n + 1, h => by
    rw [sumN, val_add]
    exact Nat.xor_lt_two_pow (val_sum_lt m f n (fun i hi => h i (by omega))) (h n (by omega))
theorem made_in (A : List E) (m : Nat) (hA : InN m A) (x : E) : val (madeX A x) < 2 ^ m := by
  unfold madeX madeN
  apply val_sum_lt
  intro i hi'
  have hg : A.getD i 0 ∈ A := by
    rw [List.getD_eq_getElem?_getD, List.getElem?_eq_getElem hi']; exact List.getElem_mem hi'
  cases hasB x i with
  | true => rw [pick_true]; exact hA _ hg
  | false => rw [pick_false, val_zero]; exact Nat.two_pow_pos m
end Go.Proofs.Ytfmjodlcjaflfaa.Sp
namespace Go.Proofs.Ytfmjodlcjaflfaa.Sp
open Go.Proofs.Ytfmjodlcjaflfaa.V.B Go.RowKit Go.Proofs.Ytfmjodlcjaflfaa.B Go.Proofs.Ytfmjodlcjaflfaa.V.B.Ar Go.Proofs.Ytfmjodlcjaflfaa.V.B.Tw
set_option linter.unusedVariables false
/-- The mask. -/
def maskX (H R : List E) (x : Nat) : E := madeX (weightsL R) (weight H x)
def masksL (H R : List E) : List E := tabL (2 ^ H.length) (maskX H R)
def maskE (L : Int) (H R : List E) : Int := if LvS L then (if H.length > 12 ∨ (R.length : Int) ≠ L then 6 else if AllS L H ∧ AllS L R then 0 else 5) else 1
theorem mayMask_ev (L : Int) (H R : List E) (hHl : H.length ≤ 4611686018427387904) (hRl : R.length ≤ 4611686018427387904) : Ev (fun k => ring_mayMask.f k L (H.map toS) (R.map toS)) (maskE L H R) := by
  unfold ring_mayMask.f
  by_cases hL : LvS L
  rotate_left
  · have e : maskE L H R = 1 := if_neg hL
    rw [e]
    exact Ev.bnd (wide_out hL) (Ev.pos rfl (Ev.ret _))
  obtain ⟨v, hv, hw⟩ := wide_in hL
  refine Ev.bnd hw (Ev.neg hv ?_)
  rw [List.length_map, List.length_map]
  have h6 : (H.length > 12 ∨ (R.length : Int) ≠ L) → 6 = maskE L H R := fun h => by unfold maskE; rw [if_pos hL, if_pos h]
  refine Ev.both (fun c1 => Ev.ret' (h6 (.inl (by omega)))) fun c1 => Ev.both (fun c2 => ?_) fun c2 => Ev.ret' (h6 (.inr c2))
  have hno : ¬ (H.length > 12 ∨ (R.length : Int) ≠ L) := fun h => by
    rcases h with h | h
    · omega
    · exact h c2
  have e0 : maskE L H R = if AllS L H ∧ AllS L R then 0 else 5 := by unfold maskE; rw [if_pos hL, if_neg hno]
  rw [e0]
  refine Ev.bnd (ring_of_ev L H hHl) ?_
  by_cases c3 : AllS L H
  rotate_left
  · have e : (if AllS L H ∧ AllS L R then (0 : Int) else 5) = 5 := if_neg (fun h => c3 h.1)
    rw [e]
    exact Ev.pos (by rw [decide_eq_false c3]; rfl) (Ev.ret _)
  refine Ev.neg (by rw [decide_eq_true c3]; decide) (Ev.bnd (ring_of_ev L R hRl) ?_)
  by_cases c4 : AllS L R
  · have e : (if AllS L H ∧ AllS L R then (0 : Int) else 5) = 0 := if_pos ⟨c3, c4⟩
    rw [e]
    exact Ev.neg (by rw [decide_eq_true c4]; decide) (Ev.ret _)
  · have e : (if AllS L H ∧ AllS L R then (0 : Int) else 5) = 5 := if_neg (fun h => c4 h.2)
    rw [e]
    exact Ev.pos (by rw [decide_eq_false c4]; rfl) (Ev.ret _)
theorem mask_in {L : Int} {H R : List E} (h : maskE L H R = 0) : ∃ l : Nat, L = (l : Int) ∧ l ≤ 7 ∧ H.length ≤ 12 ∧ R.length = l ∧ AllS (l : Int) H ∧ AllS (l : Int) R := by
  unfold maskE at h
  by_cases hL : LvS L
  rotate_left
  · rw [if_neg hL] at h; cases h
  rw [if_pos hL] at h
  by_cases c : H.length > 12 ∨ (R.length : Int) ≠ L
  · rw [if_pos c] at h; cases h
  rw [if_neg c] at h
  by_cases c2 : AllS L H ∧ AllS L R
  · obtain ⟨l, rfl⟩ := Int.eq_ofNat_of_zero_le hL.1
    exact ⟨l, rfl, by have := hL.2; omega, by omega, by omega, c2.1, c2.2⟩
  · rw [if_neg c2] at h; cases h
def maskO (L : Int) (H R : List E) : List E := if maskE L H R = 0 then masksL H R else []
theorem mask_l0 {l : Nat} (hl : l ≤ 7) (H R : List E) (hR : R.length = l) (hH : H.length ≤ 12) (aH : AllS (l : Int) H) : ∀ (d x : Nat), x + d = 2 ^ H.length →
    Ev (fun k => ring_Mask.l7 k ((2 ^ H.length : Nat) : Int) (x : Int) ((weightsL R).map toS) ((weightsL H).map toS) ((tabL x (maskX H R)).map toS)) ((masksL H R).map toS, 0) := by
  have h128 := w128 hl
  have hp : (2 : Nat) ^ H.length ≤ 4096 := Nat.pow_le_pow_right (n := 2) (by decide) hH
  have hwl : (weightsL H).length = 2 ^ H.length := tabL_length _ _
  have hrl : (weightsL R).length = 2 ^ l := by
    have : (weightsL R).length = 2 ^ R.length := tabL_length _ _
    rw [this, hR]
  intro d
  induction d with
  | zero =>
    intro x hx
    have : x = 2 ^ H.length := by omega
    subst this
    refine Ev.step (fun k => by rw [ring_Mask.l7]) ?_
    exact Ev.neg (Int.lt_irrefl _) (Ev.ret _)
  | succ d ih =>
    intro x hx
    have hx' : x < 2 ^ H.length := by omega
    have hih := ih (x + 1) (by omega)
    have hs : tabL (x + 1) (maskX H R) = tabL x (maskX H R) ++ [maskX H R x] := range_succM _ x
    rw [hs, List.map_append] at hih
    have hw : (weightsL H).getD x 0 = weight H x := tabL_getD _ _ x hx'
    have c3 : (x : Int) < (((weightsL H).map toS).length : Int) := by rw [List.length_map, hwl]; omega
    have c4 : ((tabL x (maskX H R)).map toS).length + 1 ≤ 140737488355328 / 16 := by rw [List.length_map, tabL_length]; omega
    have ha := Apply_ev (weightsL R) (weight H x)
    have hin : val (weight H x) < 2 ^ (weightsL R).length := by rw [hrl]; exact weight_in hl H x (inL_all aH)
    have e1 : applyE (weightsL R) (weight H x) = 0 := by
      unfold applyE; rw [if_neg (by rw [hrl]; omega), if_pos hin]
    have e2 : applyX (weightsL R) (weight H x) = maskX H R x := if_pos e1
    rw [e1, e2] at ha
    have hsu : wrap64 ((x : Int) + 1) = ((x + 1 : Nat) : Int) := w64_succ hx' (by omega)
    refine Ev.step (fun k => by rw [ring_Mask.l7]) (Ev.pos (by omega) (Ev.pos (Int.natCast_nonneg _) (Ev.pos c3 ?_)))
    rw [rdS, hw, hsu]
    exact Ev.bnd ha (Ev.pos c4 hih)
theorem Mask_ev (L : Int) (H R : List E) (hHl : H.length ≤ 4611686018427387904) (hRl : R.length ≤ 4611686018427387904) : Ev (fun k => ring_Mask.f k L (H.map toS) (R.map toS)) ((maskO L H R).map toS, maskE L H R) := by
  unfold ring_Mask.f
  refine Ev.bnd (mayMask_ev L H R hHl hRl) ?_
  by_cases c : maskE L H R = 0
  rotate_left
  · have e : maskO L H R = [] := if_neg c
    rw [e]
    exact Ev.neg c (Ev.ret _)
  have e : maskO L H R = masksL H R := if_pos c
  rw [e, c]
  obtain ⟨l, rfl, hl, hH, hR, aH, aR⟩ := mask_in c
  have hw1 := Weights_ev (l : Int) R
  have ew1 : weightsO (l : Int) R = weightsL R := if_pos ⟨⟨by omega, by omega⟩, by omega, aR⟩
  have hw2 := Weights_ev (l : Int) H
  have ew2 : weightsO (l : Int) H = weightsL H := if_pos ⟨⟨by omega, by omega⟩, by omega, aH⟩
  rw [ew1] at hw1
  rw [ew2] at hw2
  have hwl : (weightsL H).length = 2 ^ H.length := tabL_length _ _
  refine Ev.pos rfl (Ev.bnd hw1 (Ev.bnd hw2 ?_))
  rw [List.length_map, hwl]
  exact mask_l0 hl H R hR hH aH (2 ^ H.length) 0 (Nat.zero_add _)
theorem masksL_length (H R : List E) : (masksL H R).length = 2 ^ H.length := tabL_length _ _
theorem masksL_all {l : Nat} (hl : l ≤ 7) {H R : List E} (aR : AllS (l : Int) R) : AllS (l : Int) (masksL H R) :=
  tabL_all hl _ _ (fun x _ => sumN_in _ _ (fun i _ => pick_in _ (allS_getD (weights_all hl R aR) i)))
end Go.Proofs.Ytfmjodlcjaflfaa.Sp
namespace Go.Proofs.Ytfmjodlcjaflfaa.Sp
open Go.Proofs.Ytfmjodlcjaflfaa.V.B Go.RowKit Go.Proofs.Ytfmjodlcjaflfaa.B Go.Proofs.Ytfmjodlcjaflfaa.V.B.Ar Go.Proofs.Ytfmjodlcjaflfaa.V.B.Tw
set_option linter.unusedVariables false
set_option linter.unusedSimpArgs false
theorem grow_ev (n : Nat) (hn : n ≤ 1000000) : Ev (fun k => slices_Grow80.f k () (n : Int)) ([] : List S34) := by
  have e1 : wrap64 (0 - ((0 : Nat) : Int)) = 0 := by decide +kernel
  have e2 : wrap64 ((n : Int) - 0) = (n : Int) := by rw [w64_id (by omega) (by omega)]; omega
  unfold slices_Grow80.f
  rw [e1, e2]
  by_cases c : (n : Int) > 0
  · refine Ev.neg (by omega) (Ev.pos c (Ev.pos (by decide) (Ev.pos (by omega) (Ev.pos (by omega) (Ev.pos (by decide) (Ev.pos (by omega) (Ev.ret' ?_)))))))
    rw [Int.toNat_natCast, Int.toNat_natCast, List.take_zero]
  · exact Ev.neg (by omega) (Ev.neg c (Ev.ret _))
theorem concat2 (A B : List S34) (hA : A.length ≤ 400000) (hB : B.length ≤ 400000) : Ev (fun k => slices_Concat56.f k [A, B]) (A ++ B) := by
  have r0 : Go.Proofs.Ytfmjodlcjaflfaa.B.rdL [A, B] 0 = A := rfl
  have r1 : Go.Proofs.Ytfmjodlcjaflfaa.B.rdL [A, B] 1 = B := rfl
  have e01 : wrap64 ((0 : Int) + 1) = 1 := w64_id (by decide) (by decide)
  have e12 : wrap64 ((1 : Int) + 1) = 2 := w64_id (by decide) (by decide)
  have eA : wrap64 ((0 : Int) + (A.length : Int)) = (A.length : Int) := by rw [Int.zero_add]; exact w64_id (by omega) (by omega)
  have eB : wrap64 ((A.length : Int) + (B.length : Int)) = ((A.length + B.length : Nat) : Int) := w64_add (by omega) (by omega)
  have h2 : (([A, B] : List (List S34)).length : Int) = 2 := rfl
  have q0 : (0 : Int) < (([A, B] : List (List S34)).length : Int) := by rw [h2]; decide
  have q1 : (1 : Int) < (([A, B] : List (List S34)).length : Int) := by rw [h2]; decide
  have f1 : ([] : List S34).length + A.length ≤ 140737488355328 / 16 := by rw [List.length_nil]; omega
  have f2 : ([] ++ A : List S34).length + B.length ≤ 140737488355328 / 16 := by rw [List.nil_append]; omega
  have l11 : Ev (fun k => slices_Concat56.l11 k [A, B] 2 0 []) (A ++ B) := by
    refine Ev.step (fun k => by rw [slices_Concat56.l11]) (Ev.pos (by decide) (Ev.pos (by decide) (Ev.pos q0 ?_)))
    rw [r0, e01]
    refine Ev.pos f1 (Ev.step (fun k => by rw [slices_Concat56.l11]) (Ev.pos (by decide) (Ev.pos (by decide) (Ev.pos q1 ?_))))
    rw [r1, e12]
    refine Ev.pos f2 (Ev.step (fun k => by rw [slices_Concat56.l11]) ?_)
    exact Ev.neg (by decide) (Ev.ret _)
  unfold slices_Concat56.f
  rw [h2]
  refine Ev.step (fun k => by rw [slices_Concat56.l3]) (Ev.pos (by decide) (Ev.pos (by decide) (Ev.pos q0 ?_)))
  rw [r0, e01, eA]
  refine Ev.neg (by omega) (Ev.step (fun k => by rw [slices_Concat56.l3]) (Ev.pos (by decide) (Ev.pos (by decide) (Ev.pos q1 ?_))))
  rw [r1, e12, eB]
  refine Ev.neg (by omega) (Ev.step (fun k => by rw [slices_Concat56.l3]) (Ev.neg (by decide) (Ev.bnd (grow_ev _ (by omega)) ?_)))
  rw [h2]
  exact l11
theorem alike_l1 {l : Nat} (hl : l ≤ 7) (f g : Nat → E) (q : E) (hf : ∀ u, u < 2 ^ l → InL l (f u)) (hq : InL l q) (PS : List S34) (R : List E) (j : Nat) (hj : j < R.length) (hRq : R.getD j 0 = q) (m : Int) {res : List S34 × Int}
    (h : Ev (fun k => packv_Alike.l10 k (l : Int) PS (R.map toS) m (wrap64 ((j : Int) + 1)) ((tabL (2 ^ l) (fun u => g u + f u * q)).map toS)) res) :
    ∀ (d i : Nat), i + d = 2 ^ l → Ev (fun k => packv_Alike.l15 k (l : Int) PS (R.map toS) (j : Int) m (j : Int) ((2 ^ l : Nat) : Int) (i : Int) ((tabL (2 ^ l) (fun u => g u + pick (decide (u < i)) (f u * q))).map toS) ((tabL (2 ^ l) f).map toS)) res := by
  have h128 := w128 hl
  intro d
  induction d with
  | zero =>
    intro i hid
    have : i = 2 ^ l := by omega
    subst this
    refine Ev.step (fun k => by rw [packv_Alike.l15]) (Ev.neg (Int.lt_irrefl _) ?_)
    have e1 : tabL (2 ^ l) (fun u => g u + pick (decide (u < 2 ^ l)) (f u * q)) = tabL (2 ^ l) (fun u => g u + f u * q) := tabL_congr _ (fun u hu => by rw [pickd_in _ u _ hu])
    rw [e1]; exact h
  | succ d ih =>
    intro i hid
    have hi' : i < 2 ^ l := by omega
    have hih := ih (i + 1) (by omega)
    have g1 : (tabL (2 ^ l) (fun u => g u + pick (decide (u < i)) (f u * q))).getD i 0 = g i := by rw [tabL_getD _ _ i hi', pickd_at, add_zero]
    have g2 : (tabL (2 ^ l) f).getD i 0 = f i := tabL_getD _ _ i hi'
    have c3 : i < ((tabL (2 ^ l) f).map toS).length := by rw [List.length_map, tabL_length]; omega
    have c4 : i < ((tabL (2 ^ l) (fun u => g u + pick (decide (u < i)) (f u * q))).map toS).length := by rw [List.length_map, tabL_length]; omega
    have c5 : j < (R.map toS).length := by rw [List.length_map]; omega
    have eo : ((tabL (2 ^ l) (fun u => g u + pick (decide (u < i)) (f u * q))).map toS).set (i : Int).toNat (toS (g i + f i * q)) = (tabL (2 ^ l) (fun u => g u + pick (decide (u < i + 1)) (f u * q))).map toS := by
      rw [Int.toNat_natCast, map_set]
      have hn2 := pickd_now i (f i * q)
      conv => lhs; rw [← hn2]
      rw [tabL_set (2 ^ l) _ (fun u => g u + pick (decide (u < i + 1)) (f u * q)) i hi' (fun k _ hne => by show g k + _ = g k + _; rw [pickd_next i k _ hne])]
    refine Ev.step (fun k => by rw [packv_Alike.l15]) (Ev.pos (by omega) (Ev.ixS c3 (Ev.ixS c4 (Ev.ixS c5 ?_))))
    rw [rdS, rdS, rdS, g1, g2, hRq, w64_succ hi' (show 2 ^ l ≤ 4611686018427387904 by omega)]
    refine Ev.bnd (Mul_ev hl (hf i hi') hq) (Ev.bnd (Add_ev _ _) (Ev.ixS c4 ?_))
    rw [eo]
    exact hih
theorem alikeX_in {l : Nat} (hl : l ≤ 7) (P R : List E) (hR : ∀ x ∈ R, InL l x) (k : Nat) : InL l (alikeX P R k) :=
  sumN_in _ _ (fun i _ => pick_in _ (weight_in hl R i hR))
theorem take_snoc (P : List E) (j : Nat) (h : j < P.length) : P.take (j + 1) = P.take j ++ [P.getD j 0] := by
  have hg : P.getD j 0 = P[j] := by rw [List.getD_eq_getElem?_getD, List.getElem?_eq_getElem h]; rfl
  rw [hg]; exact List.take_succ_eq_append_getElem h
theorem alike_l0 {l : Nat} (hl : l ≤ 7) (P R : List E) (hP : AllS (l : Int) P) (hR : AllS (l : Int) R) (hlen : P.length = R.length) (h16 : P.length ≤ 16) : ∀ (d j : Nat), j + d = P.length →
    Ev (fun k => packv_Alike.l10 k (l : Int) (P.map toS) (R.map toS) (P.length : Int) (j : Int) ((tabL (2 ^ l) (alikeX (P.take j) (R.take j))).map toS)) ((tabL (2 ^ l) (alikeX P R)).map toS, 0) := by
  have h128 := w128 hl
  intro d
  induction d with
  | zero =>
    intro j hj
    have : j = P.length := by omega
    subst this
    rw [List.take_length]
    have : R.take P.length = R := by rw [hlen, List.take_length]
    rw [this]
    exact Ev.step (fun k => by rw [packv_Alike.l10]) (Ev.neg (Int.lt_irrefl _) (Ev.ret _))
  | succ d ih =>
    intro j hj
    have hj' : j < P.length := by omega
    have hih := ih (j + 1) (by omega)
    have hPj : ∀ x ∈ P.take j, InL l x := fun x hx => inL_all hP x (List.mem_of_mem_take hx)
    have hRj : ∀ x ∈ R.take j, InL l x := fun x hx => inL_all hR x (List.mem_of_mem_take hx)
    have htl : (P.take j).length = (R.take j).length := by rw [List.length_take, List.length_take]; omega
    have hf : ∀ u, InL l (alikeX (P.take j) (R.take j) u) := alikeX_in hl _ _ hRj
    have hcl : Ev (fun k => slices_Clone58.f k ((tabL (2 ^ l) (alikeX (P.take j) (R.take j))).map toS)) ((tabL (2 ^ l) (alikeX (P.take j) (R.take j))).map toS) := by
      unfold slices_Clone58.f
      exact Ev.pos (by rw [List.length_nil, List.length_map, tabL_length]; omega) (Ev.ret' (List.nil_append _))
    have hall : AllS (l : Int) (tabL (2 ^ l) (alikeX (P.take j) (R.take j))) := tabL_all hl _ _ (fun u _ => hf u)
    have hby := byLeft_ev hl (alikeX (P.take j) (R.take j)) (tabL (2 ^ l) (alikeX (P.take j) (R.take j))) (P.getD j 0) 1 hall (by rw [tabL_length]; exact Nat.le_refl _) (allS_getD hP j) (inL_one l)
    have hact : tabL (2 ^ l) (fun k => alikeX (P.take j) (R.take j) k + actT (tabL (2 ^ l) (alikeX (P.take j) (R.take j))).length (fun i => (tabL (2 ^ l) (alikeX (P.take j) (R.take j))).getD i 0) (P.getD j 0) 1 k)
        = tabL (2 ^ l) (fun k => alikeX (P.take j) (R.take j) k + actT (2 ^ l) (alikeX (P.take j) (R.take j)) (P.getD j 0) 1 k) := by
      apply tabL_congr
      intro k _
      rw [tabL_length]
      congr 1
      exact actT_congr _ _ _ _ (fun u hu => tabL_getD _ _ u hu)
    rw [hact] at hby
    have c5 : j < (P.map toS).length := by rw [List.length_map]; omega
    refine Ev.step (fun k => by rw [packv_Alike.l10]) (Ev.pos (by omega) (Ev.bnd hcl (Ev.ixS c5 (Ev.bnd One_ev ?_))))
    rw [rdS]
    refine Ev.bnd hby ?_
    rw [List.length_map, tabL_length]
    have e0 : tabL (2 ^ l) (fun k => alikeX (P.take j) (R.take j) k + actT (2 ^ l) (alikeX (P.take j) (R.take j)) (P.getD j 0) 1 k)
        = tabL (2 ^ l) (fun u => (alikeX (P.take j) (R.take j) u + actT (2 ^ l) (alikeX (P.take j) (R.take j)) (P.getD j 0) 1 u) + pick (decide (u < 0)) (alikeX (P.take j) (R.take j) u * R.getD j 0)) :=
      tabL_congr _ (fun u _ => by rw [pickd_zero, add_zero])
    rw [e0]
    refine alike_l1 hl (alikeX (P.take j) (R.take j)) _ (R.getD j 0) (fun u _ => hf u) (allS_getD hR j) _ R j (by omega) rfl _ ?_ (2 ^ l) 0 (Nat.zero_add _)
    rw [w64_succ hj' (show P.length ≤ 4611686018427387904 by omega)]
    have e1 : tabL (2 ^ l) (fun u => (alikeX (P.take j) (R.take j) u + actT (2 ^ l) (alikeX (P.take j) (R.take j)) (P.getD j 0) 1 u) + alikeX (P.take j) (R.take j) u * R.getD j 0)
        = tabL (2 ^ l) (alikeX (P.take (j + 1)) (R.take (j + 1))) := by
      rw [take_snoc P j hj', take_snoc R j (by omega)]
      exact tabL_congr _ (fun u _ => (alikeX_snoc hl _ _ _ _ hPj htl u).symm)
    rw [e1]
    exact hih
def alikeErr (L : Int) (P R : List E) : Int := if LvS L then (if P.length = R.length ∧ P.length ≤ 16 then (if AllS L P ∧ AllS L R then 0 else 5) else 6) else 1
def alikeO (L : Int) (P R : List E) : List E := if alikeErr L P R = 0 then tabL (2 ^ L.toNat) (alikeX P R) else []
theorem pairX_tab (n : Nat) (x y : E) : pairX n x y = tabL n (fun k => pick (hasB x k) y) := rfl
theorem allS_append {L : Int} {P R : List E} : AllS L (P ++ R) ↔ AllS L P ∧ AllS L R := by
  unfold AllS
  simp only [List.mem_append]
  exact ⟨fun h => ⟨fun x hx => h x (Or.inl hx), fun x hx => h x (Or.inr hx)⟩, fun h x hx => hx.elim (h.1 x) (h.2 x)⟩
theorem Alike_ev (L : Int) (P R : List E) : Ev (fun k => packv_Alike.f k L (P.map toS) (R.map toS)) ((alikeO L P R).map toS, alikeErr L P R) := by
  unfold packv_Alike.f
  by_cases hL : LvS L
  rotate_left
  · have e : alikeErr L P R = 1 := if_neg hL
    have eo : alikeO L P R = [] := if_neg (by rw [e]; decide)
    rw [e, eo]
    exact Ev.bnd (psize_out hL) (Ev.pos rfl (Ev.ret _))
  obtain ⟨l, rfl⟩ := Int.eq_ofNat_of_zero_le hL.1
  have hl : l ≤ 7 := by have := hL.2; omega
  have h0 := Nat.two_pow_pos l
  refine Ev.bnd (psize_in hl) (Ev.neg (by omega) ?_)
  rw [List.length_map, List.length_map]
  have h6 : ¬ (P.length = R.length ∧ P.length ≤ 16) → alikeErr (l : Int) P R = 6 ∧ alikeO (l : Int) P R = [] := by
    intro h
    have e : alikeErr (l : Int) P R = 6 := by unfold alikeErr; rw [if_pos hL, if_neg h]
    exact ⟨e, if_neg (by rw [e]; decide)⟩
  by_cases c1 : (P.length : Int) = (R.length : Int)
  rotate_left
  · obtain ⟨e, eo⟩ := h6 (fun h => c1 (by omega))
    rw [e, eo]
    exact Ev.neg c1 (Ev.ret _)
  refine Ev.pos c1 ?_
  by_cases c2 : (P.length : Int) > 16
  · obtain ⟨e, eo⟩ := h6 (fun h => by omega)
    rw [e, eo]
    exact Ev.pos c2 (Ev.ret _)
  refine Ev.neg c2 (Ev.bnd (concat2 (P.map toS) (R.map toS) (by rw [List.length_map]; omega) (by rw [List.length_map]; omega)) ?_)
  rw [← List.map_append]
  refine Ev.bnd (pask_ev (l : Int) [] (P ++ R) (by rw [List.length_append]; omega) (fun t ht => by cases ht) (by decide)) ?_
  have ha : paskE (l : Int) [] (P ++ R) = if AllS (l : Int) P ∧ AllS (l : Int) R then 0 else 5 := by
    have n1 : LenT ((2 ^ (l : Int).toNat : Nat) : Int) ([] : List (List E)) := fun t ht => by cases ht
    have n2 : AllT (l : Int) ([] : List (List E)) := fun t ht => by cases ht
    unfold paskE
    rw [if_pos hL, if_pos n1]
    by_cases c : AllS (l : Int) P ∧ AllS (l : Int) R
    · rw [if_pos c, if_pos ⟨n2, allS_append.2 c⟩]
    · rw [if_neg c, if_neg (fun h => c (allS_append.1 h.2))]
  have he : alikeErr (l : Int) P R = if AllS (l : Int) P ∧ AllS (l : Int) R then 0 else 5 := by
    unfold alikeErr; rw [if_pos hL, if_pos ⟨by omega, by omega⟩]
  rw [ha, he]
  by_cases c : AllS (l : Int) P ∧ AllS (l : Int) R
  rotate_left
  · rw [if_neg c] at he ⊢
    have eo : alikeO (l : Int) P R = [] := if_neg (by rw [he]; decide)
    rw [eo]
    exact Ev.neg (by decide) (Ev.ret _)
  rw [if_pos c] at he ⊢
  have eo : alikeO (l : Int) P R = tabL (2 ^ l) (alikeX P R) := by unfold alikeO; rw [if_pos he, Int.toNat_natCast]
  rw [eo]
  have hone := POne_ev (l : Int)
  have e1 : leftO (l : Int) 1 = tabL (2 ^ l) (alikeX (P.take 0) (R.take 0)) := by
    unfold leftO
    rw [if_pos (ofS_of hl (inL_one l)), Int.toNat_natCast, pairX_tab, List.take_zero, List.take_zero]
    exact tabL_congr _ (fun k _ => (alikeX_nil k).symm)
  rw [e1] at hone
  exact Ev.pos rfl (Ev.bnd hone (alike_l0 hl P R c.1 c.2 (by omega) (by omega) P.length 0 (Nat.zero_add _)))
theorem tabL_len2 (n : Nat) (f : Nat → E) : ((tabL n f).length : Int) = (n : Int) := by rw [tabL_length]
theorem Fold_ev {l : Nat} (hl : l ≤ 7) {X Y : List E} (hX : X.length = 2 ^ l) (hY : Y.length = 2 ^ l) (aX : AllS (l : Int) X) (aY : AllS (l : Int) Y) : Ev (fun k => packv_Fold.f k (l : Int) (X.map toS) (Y.map toS)) (toS (sumN (fun i => X.getD i 0 * Y.getD i 0) (2 ^ l)), 0) := by
  have h128 := w128 hl
  have hL : LvS (l : Int) := ⟨by omega, by omega⟩
  have two : ∀ t, t ∈ [X, Y] → t = X ∨ t = Y := fun t ht => by
    rcases List.mem_cons.1 ht with h | h
    · exact .inl h
    · exact .inr (List.mem_singleton.1 h)
  have ha := pask_ev (l : Int) [X, Y] [] (by decide) (fun t ht => by rcases two t ht with h | h <;> rw [h] <;> omega) (by show 2 ≤ 1000000; decide)
  have e : paskE (l : Int) [X, Y] [] = 0 := by
    have h1 : LenT ((2 ^ (l : Int).toNat : Nat) : Int) [X, Y] := fun t ht => by rw [Int.toNat_natCast]; rcases two t ht with h | h <;> rw [h] <;> omega
    have h2 : AllT (l : Int) [X, Y] := fun t ht => by rcases two t ht with h | h <;> rw [h] <;> assumption
    have h3 : AllS (l : Int) ([] : List E) := fun x hx => by cases hx
    unfold paskE
    rw [if_pos hL, if_pos h1, if_pos ⟨h2, h3⟩]
  rw [e] at ha
  have hd := Dot_ev hl X Y aX aY (by rw [hX, hY]) (by omega)
  rw [hX] at hd
  unfold packv_Fold.f
  exact Ev.bnd ha (Ev.pos rfl (Ev.bnd hd (Ev.ret _)))
/-- The mask's value, by parts. -/
theorem fold_mask {l : Nat} {H S V : List E} (hS : S.length = l) (hV : V.length = H.length) : sumN (fun k => (tabL (2 ^ l) (alikeX H V)).getD k 0 * (weightsL S).getD k 0) (2 ^ l) = value (masksL H S) V := by
  have hwl : (weightsL S).length = 2 ^ l := by unfold weightsL; rw [tabL_length, hS]
  unfold value
  rw [masksL_length]
  have e1 : sumN (fun k => (tabL (2 ^ l) (alikeX H V)).getD k 0 * (weightsL S).getD k 0) (2 ^ l) = sumN (fun k => sumN (fun i => pick (hasB (weight H i) k) (weight V i * (weightsL S).getD k 0)) (2 ^ H.length)) (2 ^ l) := by
    refine sumN_congr _ fun k hk => ?_
    rw [tabL_getD _ _ k hk]
    unfold alikeX
    rw [← sumN_mulr]
    exact sumN_congr _ fun i _ => (pick_mul _ _ _).symm
  have e2 : sumN (fun i => (masksL H S).getD i 0 * weight V i) (2 ^ H.length) = sumN (fun i => sumN (fun k => pick (hasB (weight H i) k) (weight V i * (weightsL S).getD k 0)) (2 ^ l)) (2 ^ H.length) := by
    refine sumN_congr _ fun i hi' => ?_
    have : (masksL H S).getD i 0 = maskX H S i := tabL_getD _ _ i hi'
    rw [this]
    unfold maskX madeX madeN
    rw [hwl, ← sumN_mulr]
    exact sumN_congr _ fun k _ => by rw [← pick_mul, mul_comm]
  rw [e1, e2]
  exact sumN_swap _ _ _
def ratE (L : Int) (H S V : List E) : Int := if maskE L H S = 0 then (if V.length = H.length then (if AllS L V then 0 else 5) else 6) else maskE L H S
def ratX (L : Int) (H S V : List E) : E := if ratE L H S V = 0 then value (masksL H S) V else 0
theorem zeroT : (⟨0, 0⟩ : S34) = toS 0 := toS_zero.symm
theorem rAt_ev (L : Int) (H S V : List E) (hH : H.length ≤ 4611686018427387904) (hS : S.length ≤ 4611686018427387904) (hV : V.length ≤ 4611686018427387904) : Ev (fun k => ring_At.f k L (H.map toS) (S.map toS) (V.map toS)) (toS (ratX L H S V), ratE L H S V) := by
  unfold ring_At.f
  refine Ev.bnd (mayMask_ev L H S hH hS) ?_
  by_cases c : maskE L H S = 0
  rotate_left
  · have e1 : ratE L H S V = maskE L H S := if_neg c
    have e2 : ratX L H S V = 0 := if_neg (by rw [e1]; exact c)
    rw [e1, e2, ← zeroT]
    exact Ev.neg c (Ev.ret _)
  refine Ev.pos c ?_
  rw [List.length_map, List.length_map]
  by_cases c1 : V.length = H.length
  rotate_left
  · have e1 : ratE L H S V = 6 := by unfold ratE; rw [if_pos c, if_neg c1]
    have e2 : ratX L H S V = 0 := if_neg (by rw [e1]; decide)
    rw [e1, e2, ← zeroT]
    exact Ev.neg (by omega) (Ev.ret _)
  refine Ev.pos (by omega) (Ev.bnd (ring_of_ev L V hV) ?_)
  by_cases c2 : AllS L V
  rotate_left
  · have e1 : ratE L H S V = 5 := by unfold ratE; rw [if_pos c, if_pos c1, if_neg c2]
    have e2 : ratX L H S V = 0 := if_neg (by rw [e1]; decide)
    rw [e1, e2, ← zeroT]
    exact Ev.pos (by rw [decide_eq_false c2]; rfl) (Ev.ret _)
  obtain ⟨l, rfl, hl, h12, hSl, aH, aS⟩ := mask_in c
  have e1 : ratE (l : Int) H S V = 0 := by unfold ratE; rw [if_pos c, if_pos c1, if_pos c2]
  have e2 : ratX (l : Int) H S V = value (masksL H S) V := if_pos e1
  have ha := Alike_ev (l : Int) H V
  have hL : LvS (l : Int) := ⟨by omega, by omega⟩
  have e3 : alikeErr (l : Int) H V = 0 := by unfold alikeErr; rw [if_pos hL, if_pos ⟨by omega, by omega⟩, if_pos ⟨aH, c2⟩]
  have e4 : alikeO (l : Int) H V = tabL (2 ^ l) (alikeX H V) := by unfold alikeO; rw [if_pos e3, Int.toNat_natCast]
  rw [e3, e4] at ha
  have hw := Weights_ev (l : Int) S
  have ew : weightsO (l : Int) S = weightsL S := if_pos ⟨hL, by omega, aS⟩
  rw [ew] at hw
  have hwl : (weightsL S).length = 2 ^ l := by unfold weightsL; rw [tabL_length, hSl]
  have hf := Fold_ev hl (tabL_length (2 ^ l) (alikeX H V)) hwl (tabL_all hl _ _ fun u _ => alikeX_in hl H V (inL_all c2) u) (weights_all hl S aS)
  rw [fold_mask hSl c1] at hf
  rw [e1, e2]
  exact Ev.neg (by rw [decide_eq_true c2]; decide) (Ev.bnd ha (Ev.bnd hw (Ev.bnd hf (Ev.ret _))))
end Go.Proofs.Ytfmjodlcjaflfaa.Sp
namespace Go.Proofs.Ytfmjodlcjaflfaa.Sp
open Go.Proofs.Ytfmjodlcjaflfaa.V.B Go.RowKit Go.Proofs.Ytfmjodlcjaflfaa.B Go.Proofs.Ytfmjodlcjaflfaa.V.B.Ar Go.Proofs.Ytfmjodlcjaflfaa.V.B.Tw
set_option linter.unusedVariables false
set_option linter.unusedSimpArgs false
theorem sumN_blocks (f : Nat → E) (n : Nat) : ∀ m, sumN f (m * n) = sumN (fun x => sumN (fun v => f (x * n + v)) n) m
  | 0 => by rw [Nat.zero_mul]; rfl
  | m + 1 => by rw [Nat.succ_mul, sumN_split, sumN_blocks f n m, sumN]
/-- A corner's weight at a point of two parts. -/
theorem weight_append (H : List E) (x : Nat) : ∀ (P : List E) (v : Nat), v < 2 ^ P.length → weight (P ++ H) (x * 2 ^ P.length + v) = weight P v * weight H x
  | [], v, h => by
    have : v = 0 := by
      have h1 : (2 : Nat) ^ ([] : List E).length = 1 := rfl
      omega
    subst this
    show weight H (x * 1 + 0) = weight [] 0 * weight H x
    rw [Nat.mul_one, Nat.add_zero, weight, one_mul]
  | q :: Q, v, h => by
    rw [List.length_cons, Nat.pow_succ] at h
    have e1 : (x * 2 ^ (q :: Q).length + v) % 2 = v % 2 := by
      rw [List.length_cons, Nat.pow_succ, ← Nat.mul_assoc]; omega
    have e2 : (x * 2 ^ (q :: Q).length + v) / 2 = x * 2 ^ Q.length + v / 2 := by
      rw [List.length_cons, Nat.pow_succ, ← Nat.mul_assoc]; omega
    rw [List.cons_append, weight, weight, e1, e2, weight_append H x Q (v / 2) (by omega), mul_assoc]
end Go.Proofs.Ytfmjodlcjaflfaa.Sp
namespace Go.Proofs.Ytfmjodlcjaflfaa.Sp
open Go.Proofs.Ytfmjodlcjaflfaa.V.B Go.RowKit Go.Proofs.Ytfmjodlcjaflfaa.B Go.Proofs.Ytfmjodlcjaflfaa.V.B.Ar Go.Proofs.Ytfmjodlcjaflfaa.V.B.Tw
set_option linter.unusedVariables false
set_option linter.unusedSimpArgs false
/-- The first k of numbers of b bits, side by side. -/
def gv (f : Nat → Nat) (b : Nat) : Nat → Nat
  | 0 => 0
  | k + 1 => gv f b k + f k * 2 ^ (b * k)
theorem gv_lt {f : Nat → Nat} {b : Nat} : ∀ k, (∀ j, j < k → f j < 2 ^ b) → gv f b k < 2 ^ (b * k)
  | 0, _ => by simp [gv]
  | k + 1, h => by
    have h1 := gv_lt k (fun j hj => h j (by omega))
    have h2 := h k (by omega)
    show gv f b k + f k * 2 ^ (b * k) < 2 ^ (b * (k + 1))
    rw [Nat.mul_succ, Nat.pow_add, Nat.mul_comm (2 ^ (b * k))]
    have h3 : (f k + 1) * 2 ^ (b * k) ≤ 2 ^ b * 2 ^ (b * k) := Nat.mul_le_mul_right _ h2
    rw [Nat.add_mul, Nat.one_mul] at h3
    omega
theorem gv_bit {f : Nat → Nat} {b : Nat} (hb : 0 < b) : ∀ k, (∀ j, j < k → f j < 2 ^ b) → ∀ n, n < b * k → (gv f b k).testBit n = (f (n / b)).testBit (n % b)
  | 0, _, n, hn => by simp at hn
  | k + 1, h, n, hn => by
    have h1 := gv_lt k (fun j hj => h j (by omega))
    show (gv f b k + f k * 2 ^ (b * k)).testBit n = _
    rw [Nat.add_comm, Nat.mul_comm (f k), Nat.testBit_two_pow_mul_add _ h1]
    by_cases c : n < b * k
    · rw [if_pos c]; exact gv_bit hb k (fun j hj => h j (by omega)) n c
    · rw [if_neg c]
      have hq : n / b = k := by
        rw [Nat.div_eq_of_lt_le]
        · rw [Nat.mul_comm]; omega
        · rw [Nat.mul_comm]; exact hn
      have hr : n % b = n - b * k := by
        have := Nat.div_add_mod n b
        rw [hq] at this; omega
      rw [hq, hr]
theorem gv_get {f : Nat → Nat} {b : Nat} (hb : 0 < b) {k : Nat} (h : ∀ j, j < k → f j < 2 ^ b) {j : Nat} (hj : j < k) : gv f b k / 2 ^ (b * j) % 2 ^ b = f j := by
  apply Nat.eq_of_testBit_eq
  intro i
  rw [Nat.testBit_mod_two_pow, Nat.testBit_div_two_pow]
  by_cases c : i < b
  · have hlt : i + b * j < b * k := by
      have : b * (j + 1) ≤ b * k := Nat.mul_le_mul_left _ hj
      rw [Nat.mul_succ] at this; omega
    rw [gv_bit hb k h _ hlt, Nat.add_mul_div_left _ _ hb, Nat.add_mul_mod_self_left, Nat.div_eq_of_lt c, Nat.mod_eq_of_lt c, Nat.zero_add]
    simp [c]
  · have : (f j).testBit i = false := Nat.testBit_lt_two_pow (Nat.lt_of_lt_of_le (h j hj) (Nat.pow_le_pow_right (by decide) (by omega)))
    simp [c, this]
theorem gv_congr {f g : Nat → Nat} {b : Nat} : ∀ k, (∀ j, j < k → f j = g j) → gv f b k = gv g b k
  | 0, _ => rfl
  | k + 1, h => by
    show gv f b k + f k * 2 ^ (b * k) = gv g b k + g k * 2 ^ (b * k)
    rw [gv_congr k (fun j hj => h j (by omega)), h k (by omega)]
theorem gv_split (v b : Nat) (hb : 0 < b) : ∀ k, gv (fun k => v / 2 ^ (b * k) % 2 ^ b) b k = v % 2 ^ (b * k)
  | 0 => by simp [gv, Nat.mod_one]
  | k + 1 => by
    show gv _ b k + v / 2 ^ (b * k) % 2 ^ b * 2 ^ (b * k) = _
    rw [gv_split v b hb k, Nat.mul_succ, Nat.pow_add, Nat.mod_mul, Nat.mul_comm (2 ^ (b * k))]
theorem hi_of {v : Nat} (h : v < 2 ^ 128) : hi (of 7 v) = ((v / 2 ^ 64 : Nat) : Int) := by
  unfold hi; rw [of_succ, mk_fst, val_of 6 _ (by rw [Q_six]; omega), Q_six]
theorem lo_of {v : Nat} (h : v < 2 ^ 128) : lo (of 7 v) = ((v % 2 ^ 64 : Nat) : Int) := by
  unfold lo; rw [of_succ, mk_snd, val_of 6 _ (by rw [Q_six]; omega), Q_six]
theorem val_of7 {v : Nat} (h : v < 2 ^ 128) : val (of 7 v) = v := val_of 7 v (by rw [Q_seven]; exact h)
theorem val_lt128 (x : E) : val x < 2 ^ 128 := by have := val_lt x; rwa [Q_seven] at this
theorem val_h (x : E) : val x.1 = val x / 2 ^ 64 := by rw [← val_div x]; rfl
theorem val_l (x : E) : val x.2 = val x % 2 ^ 64 := by rw [← val_mod x]; rfl
theorem hi_v (x : E) : hi x = ((val x / 2 ^ 64 : Nat) : Int) := by unfold hi; rw [val_h]
theorem lo_v (x : E) : lo x = ((val x % 2 ^ 64 : Nat) : Int) := by unfold lo; rw [val_l]
theorem shlu (a w : Nat) (h : w ≤ 64) : shl .u64 (a : Int) (w : Int) = ((a * 2 ^ w % 2 ^ 64 : Nat) : Int) := by
  unfold shl
  have h64 : IntKind.u64.bits = 64 := rfl
  rw [h64, Int.toNat_natCast, Nat.min_eq_left h]
  have hc : (a : Int) * 2 ^ w = ((a * 2 ^ w : Nat) : Int) := by simp
  rw [hc]
  generalize a * 2 ^ w = p
  simp [IntKind.wrap, IntKind.bits, IntKind.signed]
theorem shli (a w : Nat) (h : w ≤ 62) (hp : a * 2 ^ w ≤ 4611686018427387904) : shl .i64 (a : Int) (w : Int) = ((a * 2 ^ w : Nat) : Int) := by
  unfold shl
  have h64 : IntKind.i64.bits = 64 := rfl
  rw [h64, Int.toNat_natCast, Nat.min_eq_left (by omega)]
  have hc : (a : Int) * 2 ^ w = ((a * 2 ^ w : Nat) : Int) := by simp
  rw [hc]
  generalize a * 2 ^ w = p at hp
  exact i64_id (by omega) (by omega)
theorem split64 (v : Nat) : v = 2 ^ 64 * (v / 2 ^ 64) + v % 2 ^ 64 := (Nat.div_add_mod v (2 ^ 64)).symm
/-- So many bits higher. -/
theorem up_hi (v n : Nat) (hn : n < 64) (h : v * 2 ^ n < 2 ^ 128) : (v / 2 ^ 64 * 2 ^ n % 2 ^ 64) ||| (v % 2 ^ 64 / 2 ^ (64 - n)) = v * 2 ^ n / 2 ^ 64 := by
  apply Nat.eq_of_testBit_eq
  intro i
  rw [Nat.testBit_or, Nat.testBit_mod_two_pow, Nat.testBit_mul_two_pow, Nat.testBit_div_two_pow, Nat.testBit_div_two_pow, Nat.testBit_mod_two_pow, Nat.testBit_div_two_pow, Nat.testBit_mul_two_pow]
  by_cases c : i < 64
  · by_cases d : n ≤ i
    · have e1 : ¬ (i + (64 - n) < 64) := by omega
      have e2 : n ≤ i + 64 := by omega
      have e3 : i - n + 64 = i + 64 - n := by omega
      simp [c, d, e1, e2, e3]
    · have e1 : i + (64 - n) < 64 := by omega
      have e2 : n ≤ i + 64 := by omega
      have e3 : i + (64 - n) = i + 64 - n := by omega
      have e4 : i + 64 - n < 64 := by omega
      simp [c, d, e1, e2, e3, e4]
  · have e1 : ¬ (i + (64 - n) < 64) := by omega
    have hbit : (v * 2 ^ n).testBit (i + 64) = false := Nat.testBit_lt_two_pow (Nat.lt_of_lt_of_le h (Nat.pow_le_pow_right (by decide) (by omega)))
    rw [Nat.testBit_mul_two_pow] at hbit
    simp [c, e1]
    simpa using hbit
theorem up_eq (k : Nat) (x : E) (n : Nat) (hn : n < 128) (h : val x * 2 ^ n < 2 ^ 128) : weave_up.f k (toS x) (n : Int) = some (toS (of 7 (val x * 2 ^ n))) := by
  unfold weave_up.f
  have et : toS (of 7 (val x * 2 ^ n)) = ⟨((val x * 2 ^ n / 2 ^ 64 : Nat) : Int), ((val x * 2 ^ n % 2 ^ 64 : Nat) : Int)⟩ := by unfold toS; rw [hi_of h, lo_of h]
  rw [et, toS_f0, toS_f1]
  by_cases c0 : (n : Int) = 0
  · rw [if_pos c0]
    have : n = 0 := by omega
    subst this
    unfold toS
    rw [hi_v, lo_v]
    simp
  rw [if_neg c0]
  by_cases c : (n : Int) ≥ 64
  · have e : wrap64 ((n : Int) - 64) = ((n - 64 : Nat) : Int) := by rw [w64_id (by omega) (by omega)]; omega
    rw [if_pos c, e, if_pos (Int.natCast_nonneg _), lo_v, shlu _ _ (by omega)]
    have hsmall : val x < 2 ^ 64 := by
      rcases Nat.lt_or_ge (val x) (2 ^ 64) with g | g
      · exact g
      · exfalso
        have h1 : 2 ^ 64 * 2 ^ 64 ≤ val x * 2 ^ n := Nat.mul_le_mul g (Nat.pow_le_pow_right (by decide) (by omega))
        have : (2 : Nat) ^ 64 * 2 ^ 64 = 2 ^ 128 := by decide
        omega
    have hpn : 2 ^ n = 2 ^ (n - 64) * 2 ^ 64 := by rw [← Nat.pow_add]; congr 1; omega
    rw [Nat.mod_eq_of_lt hsmall]
    have e2 : val x * 2 ^ n = val x * 2 ^ (n - 64) * 2 ^ 64 := by rw [hpn, Nat.mul_assoc]
    rw [e2] at h ⊢
    have h4 : val x * 2 ^ (n - 64) < 2 ^ 64 := by
      have : (2 : Nat) ^ 128 = 2 ^ 64 * 2 ^ 64 := by decide
      rw [this] at h
      exact Nat.lt_of_mul_lt_mul_right h
    rw [Nat.mod_eq_of_lt h4, Nat.mul_mod_left, Nat.mul_div_cancel _ (Nat.two_pow_pos 64)]
    rfl
  · have e : wrap64 (64 - (n : Int)) = ((64 - n : Nat) : Int) := by rw [w64_id (by omega) (by omega)]; omega
    rw [if_neg c, if_pos (Int.natCast_nonneg _), e, if_pos (Int.natCast_nonneg _), hi_v, lo_v, shlu _ _ (by omega), shlu _ _ (by omega), shr_u64 _ _ (by omega)]
    rw [or_u64 _ _ (Nat.mod_lt _ (Nat.two_pow_pos 64)) (Nat.lt_of_le_of_lt (Nat.div_le_self _ _) (Nat.mod_lt _ (Nat.two_pow_pos 64))), up_hi _ _ (by omega) h, Nat.mod_mul_mod, if_pos (Int.natCast_nonneg _)]
theorem up_ev (x : E) (n : Nat) (hn : n < 128) (h : val x * 2 ^ n < 2 ^ 128) : Ev (fun k => weave_up.f k (toS x) (n : Int)) (toS (of 7 (val x * 2 ^ n))) := ⟨0, fun k _ => up_eq k x n hn h⟩
/-- So many bits lower. -/
theorem down_lo (v n : Nat) (hn : n < 64) : (v % 2 ^ 64 / 2 ^ n) ||| (v / 2 ^ 64 * 2 ^ (64 - n) % 2 ^ 64) = v / 2 ^ n % 2 ^ 64 := by
  apply Nat.eq_of_testBit_eq
  intro i
  rw [Nat.testBit_or, Nat.testBit_mod_two_pow, Nat.testBit_mul_two_pow, Nat.testBit_div_two_pow, Nat.testBit_div_two_pow, Nat.testBit_mod_two_pow, Nat.testBit_mod_two_pow, Nat.testBit_div_two_pow]
  by_cases c : i < 64
  · by_cases d : i + n < 64
    · have e1 : ¬ (64 - n ≤ i) := by omega
      simp [c, d, e1]
    · have e1 : 64 - n ≤ i := by omega
      have e3 : i - (64 - n) + 64 = i + n := by omega
      simp [c, d, e1, e3]
  · have d : ¬ (i + n < 64) := by omega
    simp [c, d]
end Go.Proofs.Ytfmjodlcjaflfaa.Sp
namespace Go.Proofs.Ytfmjodlcjaflfaa.Sp
open Go.Proofs.Ytfmjodlcjaflfaa.V.B Go.RowKit Go.Proofs.Ytfmjodlcjaflfaa.B Go.Proofs.Ytfmjodlcjaflfaa.V.B.Ar Go.Proofs.Ytfmjodlcjaflfaa.V.B.Tw
set_option linter.unusedVariables false
set_option linter.unusedSimpArgs false
/-- Two levels, one not above the other. -/
def LvTwo (F T : Int) : Prop := LvS F ∧ LvS T ∧ F ≤ T
instance (F T : Int) : Decidable (LvTwo F T) := by unfold LvTwo; infer_instance
theorem weave_ask_ev (F T : Int) : Ev (fun k => weave_ask.f k F T) (if LvTwo F T then 0 else 1) := by
  unfold weave_ask.f
  by_cases g : LvS F
  · obtain ⟨v, hv, hw⟩ := wide_in g
    refine Ev.bnd hw (Ev.neg hv ?_)
    by_cases g2 : LvS T
    · obtain ⟨v2, hv2, hw2⟩ := wide_in g2
      refine Ev.bnd hw2 (Ev.neg hv2 ?_)
      by_cases g3 : T < F
      · rw [if_neg (fun h : LvTwo F T => by have := h.2.2; omega)]
        exact Ev.pos g3 (Ev.ret _)
      · rw [if_pos (show LvTwo F T from ⟨g, g2, by omega⟩)]
        exact Ev.neg g3 (Ev.ret _)
    · rw [if_neg (fun h : LvTwo F T => g2 h.2.1)]
      exact Ev.bnd (wide_out g2) (Ev.pos rfl (Ev.ret _))
  · rw [if_neg (fun h : LvTwo F T => g h.1)]
    exact Ev.bnd (wide_out g) (Ev.pos rfl (Ev.ret _))
/-- So many elements of a list, from a place, side by side. -/
def part (X : List E) (b m g k : Nat) : E := of 7 (gv (fun j => val (X.getD (g * m + j) 0)) b k)
def full (X : List E) (b m G : Nat) : List E := (List.range G).map fun g => part X b m g m
theorem full_length (X : List E) (b m G : Nat) : (full X b m G).length = G := by unfold full; rw [List.length_map, List.length_range]
theorem full_succ (X : List E) (b m G : Nat) : full X b m (G + 1) = full X b m G ++ [part X b m G m] := by unfold full; rw [List.range_succ, List.map_append]; rfl
theorem getD_in {L : Nat} {X : List E} (h : AllS (L : Int) X) (i : Nat) : val (X.getD i 0) < 2 ^ 2 ^ L := by
  rw [List.getD_eq_getElem?_getD]
  cases e : X[i]? with
  | none => exact inL_zero L
  | some y =>
    have := (h y (List.mem_of_getElem? e)).2.2
    rwa [Int.toNat_natCast] at this
theorem add_side {a c s : Nat} (ha : a < 2 ^ s) (h : a + c * 2 ^ s < 2 ^ 128) : of 7 a + of 7 (c * 2 ^ s) = of 7 (a + c * 2 ^ s) := by
  have h1 : a < 2 ^ 128 := by omega
  have h2 : c * 2 ^ s < 2 ^ 128 := by omega
  apply val_inj
  rw [val_add, val_of7 h1, val_of7 h2, val_of7 h]
  apply Nat.eq_of_testBit_eq
  intro i
  rw [Nat.testBit_xor, Nat.testBit_mul_two_pow, Nat.add_comm a, Nat.mul_comm c, Nat.testBit_two_pow_mul_add _ ha]
  by_cases d : i < s
  · rw [if_pos d]; simp [show ¬ s ≤ i by omega]
  · rw [if_neg d, Nat.testBit_lt_two_pow (Nat.lt_of_lt_of_le ha (Nat.pow_le_pow_right (by decide) (by omega)))]; simp [show s ≤ i by omega]
theorem set_snoc {α : Type} (A : List α) (y z : α) : (A ++ [y]).set A.length z = A ++ [z] := by
  rw [List.set_append_right _ _ (Nat.le_refl _), Nat.sub_self]; rfl
theorem getD_snoc {α : Type} (A : List α) (y d : α) : (A ++ [y]).getD A.length d = y := by
  rw [List.getD_eq_getElem?_getD, List.getElem?_append_right (Nat.le_refl _), Nat.sub_self]; rfl
theorem pow_bd {l t : Nat} (hlt : l ≤ t) (ht : t ≤ 7) : 2 ^ l * 2 ^ (t - l) = 2 ^ t ∧ 2 ^ t ≤ 128 ∧ 0 < 2 ^ l ∧ 0 < 2 ^ (t - l) := by
  refine ⟨by rw [← Nat.pow_add]; congr 1; omega, Nat.pow_le_pow_right (n := 2) (by decide) ht, Nat.two_pow_pos _, Nat.two_pow_pos _⟩
/-- The step that adds an element to the last one. -/
theorem gather_tail {l m t : Nat} (hl : l ≤ 7) (hm : 0 < m) (hbm : 2 ^ l * m = 2 ^ t) (ht : 2 ^ t ≤ 128) (X : List E) (hX : X.length ≤ 1000000) (hA : AllS (l : Int) X) (A : List E) (g k i : Nat) (hk : k < m) (hi : i = g * m + k) (hiX : i < X.length) (hAl : A.length ≤ 1000000) (R : List S34 × Int)
    (h : Ev (fun q => weave_Gather.l11 q (l : Int) (m : Int) (X.map toS) ((X.length : Nat) : Int) ((i + 1 : Nat) : Int) ((A ++ [part X (2 ^ l) m g (k + 1)]).map toS)) R) (Y : List S34) (hY : Y = (A ++ [part X (2 ^ l) m g k]).map toS) :
    Ev (fun q => weave_Gather.j15 q (l : Int) (m : Int) (i : Int) (X.map toS) ((X.length : Nat) : Int) (i : Int) Y (Sp.hi (X.getD i 0)) (lo (X.getD i 0))) R := by
  have hb : 0 < 2 ^ l := Nat.two_pow_pos l
  have hkb : k * 2 ^ l + 2 ^ l ≤ 2 ^ t := by
    have : 2 ^ l * (k + 1) ≤ 2 ^ l * m := Nat.mul_le_mul_left _ hk
    rw [Nat.mul_succ, Nat.mul_comm] at this; omega
  have hlen : Y.length = A.length + 1 := by rw [hY, List.length_map, List.length_append]; rfl
  have e1 : wrap64 ((Y.length : Int) - 1) = (A.length : Int) := by rw [hlen, w64_id (by omega) (by omega)]; omega
  have e2 : Int.tmod (i : Int) (m : Int) = (k : Int) := by
    rw [← Int.ofNat_tmod, hi, Nat.mul_comm, Nat.mul_add_mod, Nat.mod_eq_of_lt hk]
  have e3 : shl .i64 (k : Int) (l : Int) = ((k * 2 ^ l : Nat) : Int) := shli k l (by omega) (by omega)
  have hv := getD_in hA i
  have h128 : val (X.getD i 0) * 2 ^ (k * 2 ^ l) < 2 ^ 128 := by
    have h1 : val (X.getD i 0) * 2 ^ (k * 2 ^ l) < 2 ^ 2 ^ l * 2 ^ (k * 2 ^ l) := Nat.mul_lt_mul_of_pos_right hv (Nat.two_pow_pos _)
    rw [← Nat.pow_add] at h1
    exact Nat.lt_of_lt_of_le h1 (Nat.pow_le_pow_right (by decide) (by omega))
  have hsum : part X (2 ^ l) m g k + of 7 (val (X.getD i 0) * 2 ^ (k * 2 ^ l)) = part X (2 ^ l) m g (k + 1) := by
    have hg : ∀ j, val (X.getD (g * m + j) 0) < 2 ^ 2 ^ l := fun j => getD_in hA _
    have hlt := gv_lt (f := fun j => val (X.getD (g * m + j) 0)) (b := 2 ^ l) k (fun j _ => hg j)
    have hlt2 := gv_lt (f := fun j => val (X.getD (g * m + j) 0)) (b := 2 ^ l) (k + 1) (fun j _ => hg j)
    unfold part
    show _ = of 7 (gv (fun j => val (X.getD (g * m + j) 0)) (2 ^ l) k + val (X.getD (g * m + k) 0) * 2 ^ (2 ^ l * k))
    rw [hi, Nat.mul_comm k]
    apply add_side hlt
    have h3 : 2 ^ (2 ^ l * (k + 1)) ≤ 2 ^ 128 := Nat.pow_le_pow_right (by decide) (by rw [Nat.mul_succ, Nat.mul_comm]; omega)
    exact Nat.lt_of_lt_of_le hlt2 h3
  refine Ev.step (fun q => by rw [weave_Gather.j15]) ?_
  rw [e1, e2, e3, w64_succ hiX (show X.length ≤ 4611686018427387904 by omega), toS_mk]
  have hrd : rd34 Y (A.length : Int) = toS (part X (2 ^ l) m g k) := by rw [hY, rdS, getD_snoc]
  rw [hrd]
  refine Ev.ixS (by omega) (Ev.neg (by omega) (Ev.pos (Int.natCast_nonneg _) (Ev.bnd (up_ev _ (k * 2 ^ l) (by omega) h128) (Ev.bnd (Add_ev _ _) (Ev.ixS (by omega) ?_)))))
  rw [hsum, Int.toNat_natCast]
  have hset : Y.set A.length (toS (part X (2 ^ l) m g (k + 1))) = (A ++ [part X (2 ^ l) m g (k + 1)]).map toS := by
    rw [hY, List.map_append, List.map_append]
    have := set_snoc (A.map toS) (toS (part X (2 ^ l) m g k)) (toS (part X (2 ^ l) m g (k + 1)))
    rw [List.length_map] at this
    exact this
  rw [hset]
  exact h
theorem gather_in {l m t : Nat} (hl : l ≤ 7) (hm : 0 < m) (hbm : 2 ^ l * m = 2 ^ t) (ht : 2 ^ t ≤ 128) (X : List E) (hX : X.length ≤ 1000000) (hA : AllS (l : Int) X) (g : Nat) (hg : g * m + m ≤ X.length) (R : List S34 × Int)
    (h : Ev (fun q => weave_Gather.l11 q (l : Int) (m : Int) (X.map toS) ((X.length : Nat) : Int) (((g + 1) * m : Nat) : Int) ((full X (2 ^ l) m (g + 1)).map toS)) R) :
    ∀ (d k : Nat), k + d = m → 1 ≤ k → Ev (fun q => weave_Gather.l11 q (l : Int) (m : Int) (X.map toS) ((X.length : Nat) : Int) ((g * m + k : Nat) : Int) ((full X (2 ^ l) m g ++ [part X (2 ^ l) m g k]).map toS)) R := by
  have hgl : g ≤ X.length := by
    have : g * 1 ≤ g * m := Nat.mul_le_mul_left _ hm
    omega
  intro d
  induction d with
  | zero =>
    intro k hk _
    have : k = m := by omega
    subst this
    rw [full_succ, Nat.succ_mul] at h
    exact h
  | succ d ih =>
    intro k hk h1
    have hi' : g * m + k < X.length := by omega
    have hlen : ((full X (2 ^ l) m g ++ [part X (2 ^ l) m g k]).map toS).length = g + 1 := by rw [List.length_map, List.length_append, full_length]; rfl
    refine Ev.step (fun q => by rw [weave_Gather.l11]) ?_
    refine (Ev.pos (by omega) (Ev.pos (Int.natCast_nonneg _) (Ev.pos (by rw [List.length_map]; omega) (Ev.neg (by omega) (Ev.neg ?_ ?_)))))
    · rw [← Int.ofNat_tmod, Nat.mul_comm, Nat.mul_add_mod, Nat.mod_eq_of_lt (by omega)]; omega
    · simp only [rdS, toS_f0, toS_f1]
      exact gather_tail hl hm hbm ht X hX hA (full X (2 ^ l) m g) g k (g * m + k) (by omega) rfl hi' (by rw [full_length]; omega) R (ih (k + 1) (by omega) (by omega)) _ rfl
theorem gather_l0 {l m t : Nat} (hl : l ≤ 7) (hm : 0 < m) (hbm : 2 ^ l * m = 2 ^ t) (ht : 2 ^ t ≤ 128) (X : List E) (hX : X.length ≤ 1000000) (hA : AllS (l : Int) X) (G : Nat) (hG : X.length = G * m) :
    ∀ (d g : Nat), g + d = G → Ev (fun q => weave_Gather.l11 q (l : Int) (m : Int) (X.map toS) ((X.length : Nat) : Int) ((g * m : Nat) : Int) ((full X (2 ^ l) m g).map toS)) ((full X (2 ^ l) m G).map toS, 0) := by
  intro d
  induction d with
  | zero =>
    intro g hg
    have : g = G := by omega
    subst this
    exact Ev.step (fun q => by rw [weave_Gather.l11]) (Ev.neg (by omega) (Ev.ret _))
  | succ d ih =>
    intro g hg
    have hgm : g * m + m ≤ X.length := by
      have : (g + 1) * m ≤ G * m := Nat.mul_le_mul_right _ (by omega)
      rw [Nat.succ_mul] at this; omega
    have hgl : g ≤ X.length := by
      have : g * 1 ≤ g * m := Nat.mul_le_mul_left _ hm
      omega
    have hin := gather_in hl hm hbm ht X hX hA g hgm _ (ih (g + 1) (by omega)) (m - 1) 1 (by omega) (by omega)
    have hi' : g * m < X.length := by omega
    refine Ev.step (fun q => by rw [weave_Gather.l11]) ?_
    refine (Ev.pos (by omega) (Ev.pos (Int.natCast_nonneg _) (Ev.pos (by rw [List.length_map]; omega) (Ev.neg (by omega) (Ev.pos ?_ (Ev.pos (show _ + 1 ≤ 140737488355328 / 16 by rw [List.length_map, full_length]; omega) ?_))))))
    · rw [← Int.ofNat_tmod, Nat.mul_mod_left]; rfl
    · simp only [rdS, toS_f0, toS_f1]
      refine gather_tail hl hm hbm ht X hX hA (full X (2 ^ l) m g) g 0 (g * m) hm rfl hi' (by rw [full_length]; omega) _ hin _ ?_
      rw [List.map_append]
      have e : part X (2 ^ l) m g 0 = 0 := of_zero 7
      rw [e]
      congr 1
/-- What hinders gathering. -/
def gathErr (F T : Int) (X : List E) : Int := if LvTwo F T then (if X.length % 2 ^ (T.toNat - F.toNat) = 0 then (if AllS F X then 0 else 5) else 6) else 1
def gathS (F T : Int) (X : List E) : List E := full X (2 ^ F.toNat) (2 ^ (T.toNat - F.toNat)) (X.length / 2 ^ (T.toNat - F.toNat))
def gathO (F T : Int) (X : List E) : List E := if gathErr F T X = 0 then gathS F T X else []
theorem Gather_ev (F T : Int) (X : List E) (hX : X.length ≤ 1000000) : Ev (fun q => weave_Gather.f q F T (X.map toS)) ((gathO F T X).map toS, gathErr F T X) := by
  unfold weave_Gather.f gathO
  refine Ev.bnd (weave_ask_ev F T) ?_
  by_cases c : LvTwo F T
  · have hc := c
    obtain ⟨⟨hF0, hF7⟩, ⟨hT0, hT7⟩, hle⟩ := hc
    obtain ⟨l, rfl⟩ := Int.eq_ofNat_of_zero_le hF0
    obtain ⟨t, rfl⟩ := Int.eq_ofNat_of_zero_le hT0
    obtain ⟨hbm, ht, hb, hm⟩ := pow_bd (l := l) (t := t) (by omega) (by omega)
    have hE : gathErr (l : Int) (t : Int) X = if X.length % 2 ^ (t - l) = 0 then (if AllS (l : Int) X then 0 else 5) else 6 := by unfold gathErr; rw [if_pos c, Int.toNat_natCast, Int.toNat_natCast]
    rw [if_pos c]
    have hm128 : 2 ^ (t - l) ≤ 128 := by
      have : 1 * 2 ^ (t - l) ≤ 2 ^ l * 2 ^ (t - l) := Nat.mul_le_mul_right _ hb
      omega
    have e1 : wrap64 ((t : Int) - (l : Int)) = ((t - l : Nat) : Int) := w64_sub (by omega) (by omega)
    simp only [e1, shl_i64 (t - l) (by omega), List.length_map]
    refine Ev.pos trivial (Ev.pos (Int.natCast_nonneg _) (Ev.neg (by omega) ?_))
    by_cases c2 : X.length % 2 ^ (t - l) = 0
    · rw [if_pos c2] at hE
      refine Ev.pos (by rw [← Int.ofNat_tmod, c2]; rfl) (Ev.bnd (weave_of_ev (l : Int) X (by omega)) ?_)
      by_cases c3 : AllS (l : Int) X
      · rw [if_pos c3] at hE
        rw [hE, if_pos rfl]
        refine Ev.neg (by rw [decide_eq_true c3]; decide) ?_
        have hG : X.length = X.length / 2 ^ (t - l) * 2 ^ (t - l) := by
          have := Nat.div_add_mod X.length (2 ^ (t - l))
          rw [c2, Nat.add_zero, Nat.mul_comm] at this; exact this.symm
        have := gather_l0 (by omega) hm hbm ht X hX c3 _ hG _ 0 (Nat.zero_add _)
        rw [Nat.zero_mul] at this
        unfold gathS
        rw [Int.toNat_natCast, Int.toNat_natCast]
        exact this
      · rw [if_neg c3] at hE
        rw [hE, if_neg (by decide)]
        exact Ev.pos (by rw [decide_eq_false c3]; rfl) (Ev.ret _)
    · rw [if_neg c2] at hE
      rw [hE, if_neg (by decide)]
      refine Ev.neg ?_ (Ev.ret _)
      rw [← Int.ofNat_tmod]; intro h; exact c2 (Int.ofNat.inj h)
  · have hE : gathErr F T X = 1 := by unfold gathErr; rw [if_neg c]
    have hO : (if gathErr F T X = 0 then gathS F T X else []) = [] := if_neg (by rw [hE]; decide)
    rw [hO, hE, if_neg c]
    exact Ev.neg (by decide) (Ev.ret _)
end Go.Proofs.Ytfmjodlcjaflfaa.Sp
namespace Go.Proofs.Ytfmjodlcjaflfaa.Sp
open Go.Proofs.Ytfmjodlcjaflfaa.V.B Go.RowKit Go.Proofs.Ytfmjodlcjaflfaa.B Go.Proofs.Ytfmjodlcjaflfaa.V.B.Ar Go.Proofs.Ytfmjodlcjaflfaa.V.B.Tw
set_option linter.unusedVariables false
set_option linter.unusedSimpArgs false
/-- Bits as elements. -/
def bitX (b : Bool) : E := if b then 1 else 0
theorem val_bitX (b : Bool) : val (bitX b) = if b then 1 else 0 := by
  unfold bitX; cases b
  · exact val_zero 7
  · exact val_one 7
theorem all_bitX (B : List Bool) : AllS 0 (B.map bitX) := by
  intro x hx
  obtain ⟨b, _, rfl⟩ := List.mem_map.1 hx
  refine ⟨by decide, by decide, ?_⟩
  unfold InL
  rw [val_bitX]
  cases b <;> decide
theorem bitX_pick (b : Bool) (y : E) : bitX b * y = pick b y := by
  cases b
  · rw [pick_false]; exact zero_mul y
  · rw [pick_true]; exact one_mul y
theorem getD_bitX (B : List Bool) (i : Nat) : (B.map bitX).getD i 0 = bitX (B.getD i false) := by
  rw [List.getD_eq_getElem?_getD, List.getD_eq_getElem?_getD, List.getElem?_map]
  cases B[i]? with
  | none => rfl
  | some b => rfl
end Go.Proofs.Ytfmjodlcjaflfaa.Sp
namespace Go.Proofs.Ytfmjodlcjaflfaa.Sp
open Go.Proofs.Ytfmjodlcjaflfaa.V.B Go.RowKit Go.Proofs.Ytfmjodlcjaflfaa.B Go.Proofs.Ytfmjodlcjaflfaa.V.B.Ar Go.Proofs.Ytfmjodlcjaflfaa.V.B.Tw
set_option linter.unusedVariables false
theorem weaveBits_l0 (L : Int) (B : List Bool) (hB : B.length ≤ 1000000) : ∀ (d i : Nat), i + d = B.length → Ev (fun k => weave_Bits.l3 k L B ((B.length : Nat) : Int) (i : Int) (((B.take i).map bitX).map toS)) ((gathO 0 L (B.map bitX)).map toS, gathErr 0 L (B.map bitX)) := by
  intro d
  induction d with
  | zero =>
    intro i hi
    refine Ev.step (fun k => by rw [weave_Bits.l3]) (Ev.neg (by omega) ?_)
    rw [List.take_of_length_le (by omega)]
    exact Ev.bnd (Gather_ev 0 L (B.map bitX) (by rw [List.length_map]; exact hB)) (Ev.ret _)
  | succ d ih =>
    intro i hi
    have hi' : i < B.length := by omega
    have hih := ih (i + 1) (by omega)
    have hx : B.getD i false = B[i] := by rw [List.getD_eq_getElem?_getD, List.getElem?_eq_getElem hi']; rfl
    rw [List.take_succ_eq_append_getElem hi', ← hx, List.map_append, List.map_append] at hih
    have hl : (((B.take i).map bitX).map toS).length + 1 ≤ 140737488355328 / 16 := by rw [List.length_map, List.length_map, List.length_take]; omega
    refine Ev.step (fun k => by rw [weave_Bits.l3]) (Ev.pos (by omega) (Ev.pos (Int.natCast_nonneg _) (Ev.pos (by omega) ?_)))
    have hrd : rdB B (i : Int) = B.getD i false := rfl
    rw [hrd, w64_succ hi' (show B.length ≤ 4611686018427387904 by omega)]
    cases c : B.getD i false with
    | true =>
      rw [c] at hih
      exact Ev.pos rfl (Ev.bnd One_ev (Ev.pos hl hih))
    | false =>
      rw [c] at hih
      refine Ev.neg (by decide) (Ev.pos hl ?_)
      have e : [(⟨0, 0⟩ : S34)] = [bitX false].map toS := by
        show _ = [toS (bitX false)]
        have : toS (bitX false) = z34 := toS_zero
        rw [this]; rfl
      rw [e]
      exact hih
theorem weaveBits_ev (L : Int) (B : List Bool) (hB : B.length ≤ 1000000) : Ev (fun k => weave_Bits.f k L B) ((gathO 0 L (B.map bitX)).map toS, gathErr 0 L (B.map bitX)) := by
  unfold weave_Bits.f
  exact weaveBits_l0 L B hB B.length 0 (by omega)
theorem part_bit (B : List Bool) (m g k : Nat) (hm : m ≤ 128) (hk : k < m) : (val (part (B.map bitX) 1 m g m)).testBit k = B.getD (g * m + k) false := by
  have hf : ∀ j, val ((B.map bitX).getD (g * m + j) 0) < 2 ^ 1 := fun j => getD_in (L := 0) (all_bitX B) _
  have hlt := gv_lt (f := fun j => val ((B.map bitX).getD (g * m + j) 0)) (b := 1) m (fun j _ => hf j)
  unfold part
  rw [val_of7 (Nat.lt_of_lt_of_le hlt (Nat.pow_le_pow_right (by decide) (by omega))), gv_bit (by decide) m (fun j _ => hf j) k (by omega), Nat.div_one, Nat.mod_one]
  rw [List.getD_eq_getElem?_getD, List.getD_eq_getElem?_getD, List.getElem?_map]
  cases h : B[g * m + k]? with
  | none => show (val (0 : E)).testBit 0 = false; rw [val_zero]; rfl
  | some b => show (val (bitX b)).testBit 0 = b; rw [val_bitX]; cases b <;> rfl
end Go.Proofs.Ytfmjodlcjaflfaa.Sp
namespace Go.Proofs.Ytfmjodlcjaflfaa.Sp
open Go.Proofs.Ytfmjodlcjaflfaa.V.B Go.RowKit Go.Proofs.Ytfmjodlcjaflfaa.B Go.Proofs.Ytfmjodlcjaflfaa.V.B.Ar Go.Proofs.Ytfmjodlcjaflfaa.V.B.Tw
set_option linter.unusedVariables false
/-- Bits packed. -/
def packX (n : Nat) (B : List Bool) (x : Nat) : E := sumN (fun v => pick (B.getD (x * n + v) false) (bitE v)) n
def packsL (l : Nat) (B : List Bool) (m : Nat) : List E := tabL m (packX (2 ^ l) B)
theorem part_pack {l : Nat} (hl : l ≤ 7) (B : List Bool) (x : Nat) : part (B.map bitX) 1 (2 ^ l) x (2 ^ l) = packX (2 ^ l) B x := by
  have h128 := w128 hl
  have hin : InL l (part (B.map bitX) 1 (2 ^ l) x (2 ^ l)) := by
    have hf : ∀ j, val ((B.map bitX).getD (x * 2 ^ l + j) 0) < 2 ^ 1 := fun j => getD_in (L := 0) (all_bitX B) _
    have hlt := gv_lt (f := fun j => val ((B.map bitX).getD (x * 2 ^ l + j) 0)) (b := 1) (2 ^ l) (fun j _ => hf j)
    unfold InL part Q
    rw [val_of7 (Nat.lt_of_lt_of_le hlt (Nat.pow_le_pow_right (by decide) (by omega)))]
    rw [Nat.one_mul] at hlt
    exact hlt
  rw [← expand hl hin]
  unfold packX
  apply sumN_congr
  intro v hv
  have : hasB (part (B.map bitX) 1 (2 ^ l) x (2 ^ l)) v = B.getD (x * 2 ^ l + v) false := part_bit B (2 ^ l) x v h128 hv
  rw [this]
theorem full_packs {l : Nat} (hl : l ≤ 7) (B : List Bool) (G : Nat) : full (B.map bitX) 1 (2 ^ l) G = packsL l B G := by
  show (List.range G).map (fun g => part (B.map bitX) 1 (2 ^ l) g (2 ^ l)) = (List.range G).map (packX (2 ^ l) B)
  apply List.map_congr_left
  intro g _
  exact part_pack hl B g
def packO (L : Int) (B : List Bool) : List E := if askB L B.length = 0 then packsL L.toNat B (B.length / 2 ^ L.toNat) else []
theorem Pack_ev (L : Int) (B : List Bool) (hB : B.length ≤ 1000000) : Ev (fun k => ring_Pack.f k L B) ((packO L B).map toS, askB L B.length) := by
  unfold ring_Pack.f
  refine Ev.bnd (ask23_ev L B) ?_
  by_cases c : askB L B.length = 0
  · obtain ⟨l, m, rfl, hl, hlm, hm, hn, hg⟩ := ask_in c
    have hmod : 2 ^ m % 2 ^ l = 0 := Nat.mod_eq_zero_of_dvd (Nat.pow_dvd_pow 2 hlm)
    have e0 : gathErr 0 (l : Int) (B.map bitX) = 0 := by
      unfold gathErr
      have e1 : ((l : Int).toNat - (0 : Int).toNat) = l := by rw [Int.toNat_natCast]; exact Nat.sub_zero l
      rw [if_pos ⟨⟨by decide, by decide⟩, ⟨by omega, by omega⟩, by omega⟩, e1, List.length_map, hn, if_pos hmod, if_pos (all_bitX B)]
    have e2 : gathO 0 (l : Int) (B.map bitX) = packO (l : Int) B := by
      unfold gathO packO
      rw [if_pos e0, if_pos c, Int.toNat_natCast]
      unfold gathS
      have e1 : ((l : Int).toNat - (0 : Int).toNat) = l := by rw [Int.toNat_natCast]; exact Nat.sub_zero l
      rw [e1, List.length_map]
      exact full_packs hl B _
    have hw := weaveBits_ev (l : Int) B hB
    rw [e0, e2] at hw
    rw [c]
    exact Ev.pos rfl (Ev.bnd hw (Ev.ret _))
  · have e : packO L B = [] := if_neg c
    rw [e]
    exact Ev.neg c (Ev.ret _)
theorem packsL_length (l : Nat) (B : List Bool) (m : Nat) : (packsL l B m).length = m := tabL_length _ _
theorem packsL_all {l : Nat} (hl : l ≤ 7) (B : List Bool) (m : Nat) : AllS (l : Int) (packsL l B m) :=
  tabL_all hl _ _ (fun x _ => sumN_in _ _ (fun v hv => pick_in _ (bitE_in hl hv)))
/-- Sums, block by block. -/
theorem pick_mulL (b : Bool) (c y : E) : c * pick b y = pick b (c * y) := by
  cases b
  · rw [pick_false, pick_false, mul_zero]
  · rw [pick_true, pick_true]
theorem bitX_mul (b : Bool) (y : E) : bitX b * y = pick b y := by
  cases b
  · rw [pick_false]; exact zero_mul y
  · rw [pick_true]; exact one_mul y
theorem getD_bits (B : List Bool) (i : Nat) (h : i < B.length) : (B.map bitX).getD i 0 = bitX (B.getD i false) := getD_mapG bitX false 0 B i h
/-- What parts say is the bits' value. -/
theorem value_parts (l : Nat) (B : List Bool) (P H : List E) (hP : P.length = l) (hB : B.length = 2 ^ H.length * 2 ^ l) : value (partsL l B H) P = value (B.map bitX) (P ++ H) := by
  unfold value
  rw [partsL_length, List.length_map, hB, sumN_blocks]
  have h1 : sumN (fun v => (partsL l B H).getD v 0 * weight P v) (2 ^ l) = sumN (fun v => sumN (fun x => pick (B.getD (x * 2 ^ l + v) false) (weight P v * weight H x)) (2 ^ H.length)) (2 ^ l) := by
    apply sumN_congr
    intro v hv
    have : (partsL l B H).getD v 0 = partN (2 ^ l) B H (2 ^ H.length) v := tabL_getD _ _ v hv
    rw [this]
    unfold partN
    rw [← sumN_mulr]
    apply sumN_congr
    intro x _
    rw [← pick_mul, mul_comm]
  rw [h1, sumN_swap]
  apply sumN_congr
  intro x hx
  apply sumN_congr
  intro v hv
  have hb : x * 2 ^ l + v < B.length := by
    rw [hB]
    exact Nat.lt_of_lt_of_le (Nat.add_lt_add_left hv _) (by rw [← Nat.succ_mul]; exact Nat.mul_le_mul_right _ hx)
  have hwa := weight_append H x P v (by rw [hP]; exact hv)
  rw [hP] at hwa
  rw [getD_bits B _ hb, bitX_mul, hwa]
/-- Batched they are the sum of the packed table times the mask. -/
theorem batch_switch (l : Nat) (B : List Bool) (H R : List E) (hR : R.length = l) : batch (partsL l B H) R = sumN (fun x => (packsL l B (2 ^ H.length)).getD x 0 * (masksL H R).getD x 0) (2 ^ H.length) := by
  have h1 : batch (partsL l B H) R = sumN (fun u => sumN (fun v => sumN (fun x => pick (B.getD (x * 2 ^ l + v) false) (pick (hasB (weight H x) u) (weight R u * bitE v))) (2 ^ H.length)) (2 ^ l)) (2 ^ l) := by
    unfold batch turnN
    rw [partsL_length]
    apply sumN_congr
    intro u _
    rw [← sumN_mul]
    apply sumN_congr
    intro v hv
    have : (partsL l B H).getD v 0 = partN (2 ^ l) B H (2 ^ H.length) v := tabL_getD _ _ v hv
    rw [this]
    unfold partN
    rw [pick_hasB_sum, ← sumN_mul]
    apply sumN_congr
    intro x _
    rw [pick_hasB_pick, pick_mulL, pick_mulL]
  have h2 : sumN (fun x => (packsL l B (2 ^ H.length)).getD x 0 * (masksL H R).getD x 0) (2 ^ H.length) = sumN (fun x => sumN (fun v => sumN (fun u => pick (B.getD (x * 2 ^ l + v) false) (pick (hasB (weight H x) u) (weight R u * bitE v))) (2 ^ l)) (2 ^ l)) (2 ^ H.length) := by
    apply sumN_congr
    intro x hx
    have e1 : (packsL l B (2 ^ H.length)).getD x 0 = packX (2 ^ l) B x := tabL_getD _ _ x hx
    have e2 : (masksL H R).getD x 0 = maskX H R x := tabL_getD _ _ x hx
    have hrl : (weightsL R).length = 2 ^ l := by
      have : (weightsL R).length = 2 ^ R.length := tabL_length _ _
      rw [this, hR]
    rw [e1, e2]
    unfold packX maskX madeX madeN
    rw [← sumN_mulr, hrl]
    apply sumN_congr
    intro v _
    rw [← sumN_mul]
    apply sumN_congr
    intro u hu
    have e3 : (weightsL R).getD u 0 = weight R u := tabL_getD _ _ u (by rw [hR]; exact hu)
    rw [e3, ← pick_mul, pick_mulL, mul_comm (bitE v)]
  rw [h1, h2]
  rw [sumN_congr (2 ^ l) (fun u _ => sumN_swap (fun v x => pick (B.getD (x * 2 ^ l + v) false) (pick (hasB (weight H x) u) (weight R u * bitE v))) (2 ^ l) (2 ^ H.length))]
  rw [sumN_swap (fun u x => sumN (fun v => pick (B.getD (x * 2 ^ l + v) false) (pick (hasB (weight H x) u) (weight R u * bitE v))) (2 ^ l)) (2 ^ l) (2 ^ H.length)]
  apply sumN_congr
  intro x _
  exact sumN_swap _ _ _
end Go.Proofs.Ytfmjodlcjaflfaa.Sp
namespace Go.Proofs.Ytfmjodlcjaflfaa.Sp
open Go.Proofs.Ytfmjodlcjaflfaa.V.B Go.RowKit Go.Proofs.Ytfmjodlcjaflfaa.B Go.Proofs.Ytfmjodlcjaflfaa.V.B.Ar Go.Proofs.Ytfmjodlcjaflfaa.V.B.Tw
set_option linter.unusedVariables false
set_option linter.unusedSimpArgs false
/-- What hinders binding. -/
def askS (L : Int) (X R : List E) : Int := if LvS L then (if logI (X.length : Int) < 0 ∨ (R.length : Int) > logI (X.length : Int) then 6 else if AllS L X ∧ AllS L R then 0 else 5) else 1
theorem ask_ev (L : Int) (X R : List E) (hX : X.length ≤ 1000000) (hR : R.length ≤ 1000000) : Ev (fun k => cube_ask.f k L (X.map toS) (R.map toS)) (askS L X R) := by
  unfold cube_ask.f
  rw [List.length_map, List.length_map]
  refine Ev.bnd (Log_ev _) ?_
  by_cases hL : LvS L
  rotate_left
  · exact Ev.bnd (wide_out hL) (Ev.pos rfl (Ev.ret' (if_neg hL).symm))
  obtain ⟨v, hv, hw⟩ := wide_in hL
  have h6 : (logI (X.length : Int) < 0 ∨ (R.length : Int) > logI (X.length : Int)) → 6 = askS L X R := fun h => by unfold askS; rw [if_pos hL, if_pos h]
  refine Ev.bnd hw (Ev.neg hv (Ev.both (fun c1 => Ev.ret' (h6 (.inl c1))) fun c1 => Ev.both (fun c2 => Ev.ret' (h6 (.inr c2))) fun c2 => ?_))
  have hno : ¬ (logI (X.length : Int) < 0 ∨ (R.length : Int) > logI (X.length : Int)) := fun h => h.elim c1 c2
  have e : askS L X R = if AllS L X ∧ AllS L R then 0 else 5 := by unfold askS; rw [if_pos hL, if_neg hno]
  rw [e]
  refine Ev.bnd (cube_of_ev L X (by omega)) (Ev.nd (fun c3 => Ev.ret' (if_neg fun h => c3 h.1).symm) fun c3 => Ev.bnd (cube_of_ev L R (by omega)) (Ev.nd (fun c4 => Ev.ret' (if_neg fun h => c4 h.2).symm) fun c4 => Ev.ret' (if_pos ⟨c3, c4⟩).symm))
theorem tdiv_half (n : Nat) (h : n ≤ 1000000) : wrap64 (Int.tdiv (n : Int) 2) = ((n / 2 : Nat) : Int) := by
  have e : Int.tdiv (n : Int) 2 = ((n / 2 : Nat) : Int) := (Int.ofNat_tdiv n 2).symm
  rw [e, w64_id (by omega) (by omega)]
theorem between_ev {l : Nat} (hl : l ≤ 7) {a b r : E} (ha : InL l a) (hb : InL l b) (hr : InL l r) : Ev (fun k => cube_between.f k (l : Int) (toS a) (toS b) (toS r)) (toS (a + r * (a + b))) := by
  unfold cube_between.f
  exact Ev.bnd (Add_ev a b) (Ev.bnd (Mul_ev hl hr (inL_add ha hb)) (Ev.bnd (Add_ev a _) (Ev.ret _)))
theorem First_l1 {l : Nat} (hl : l ≤ 7) (X0 : List E) (hlen : X0.length ≤ 1000000) (hX : AllS (l : Int) X0) (r : E) (hr : InL l r) (RS : List S34) (m t : Int) {res : List S34 × Int}
    (hk : Ev (fun q => cube_First.l6 q (l : Int) RS m (wrap64 (t + 1)) ((first r X0).map toS)) res) :
    ∀ (d i : Nat) (X : List E), i + d = X0.length / 2 → X.length = X0.length → (∀ j, j < i → X.getD j 0 = (first r X0).getD j 0) → (∀ j, i ≤ j → X.getD j 0 = X0.getD j 0) →
    Ev (fun q => cube_First.l10 q (l : Int) ((X0.length / 2 : Nat) : Int) RS m t ((X0.length / 2 : Nat) : Int) (i : Int) (X.map toS) (hi r) (lo r)) res := by
  intro d
  induction d with
  | zero =>
    intro i X hid hXl h1 h2
    refine Ev.step (fun q => by rw [cube_First.l10]) (Ev.neg (by omega) (Ev.pos (Int.natCast_nonneg _) (Ev.pos (by rw [List.length_map]; omega) ?_)))
    rw [Int.toNat_natCast, ← List.map_take]
    have e : X.take (X0.length / 2) = first r X0 := by
      apply ext_getD
      · rw [List.length_take, first_length]; omega
      · intro j hj
        rw [List.length_take] at hj
        rw [getD_take (by omega)]; exact h1 j (by omega)
    rw [e]; exact hk
  | succ d ih =>
    intro i X hid hXl h1 h2
    have hi2 : i < X0.length / 2 := by omega
    refine Ev.step (fun q => by rw [cube_First.l10]) (Ev.pos (by omega) ?_)
    simp only [w64_dbl (show i ≤ 1000000 by omega), w64_succ (show 2 * i < X0.length by omega) (show X0.length ≤ 4611686018427387904 by omega), w64_succ hi2 (show X0.length / 2 ≤ 4611686018427387904 by omega), rdS, toS_f0, toS_f1, List.length_map]
    refine Ev.pos (Int.natCast_nonneg _) (Ev.pos (by omega) (Ev.pos (Int.natCast_nonneg _) (Ev.pos (by omega) ?_)))
    rw [h2 (2 * i) (by omega), h2 (2 * i + 1) (by omega)]
    refine Ev.bnd (between_ev hl (allS_getD hX _) (allS_getD hX _) hr) (Ev.pos (Int.natCast_nonneg _) (Ev.pos (by omega) ?_))
    rw [Int.toNat_natCast, map_set]
    refine ih (i + 1) _ (by omega) (by rw [List.length_set, hXl]) (fun j hj => ?_) (fun j hj => ?_)
    · by_cases e : j = i
      · subst e
        rw [getD_set_self (by omega), first_getD r X0 j hi2]
      · rw [getD_set_ne (by omega)]; exact h1 j (by omega)
    · rw [getD_set_ne (by omega)]; exact h2 j (by omega)
theorem First_l0 {l : Nat} (hl : l ≤ 7) (R : List E) (hR : AllS (l : Int) R) (hRl : R.length ≤ 1000000) : ∀ (d t : Nat) (X : List E), t + d = R.length → X.length ≤ 1000000 → AllS (l : Int) X →
    Ev (fun q => cube_First.l6 q (l : Int) (R.map toS) (R.length : Int) (t : Int) (X.map toS)) ((firsts (R.drop t) X).map toS, 0) := by
  intro d
  induction d with
  | zero =>
    intro t X ht hXl hX
    refine Ev.step (fun q => by rw [cube_First.l6]) (Ev.neg (by omega) (Ev.ret' ?_))
    rw [List.drop_eq_nil_of_le (by omega)]; rfl
  | succ d ih =>
    intro t X ht hXl hX
    have ht' : t < R.length := by omega
    refine Ev.step (fun q => by rw [cube_First.l6]) (Ev.pos (by omega) (Ev.pos (Int.natCast_nonneg _) (Ev.pos (by rw [List.length_map]; omega) ?_)))
    simp only [rdS, toS_f0, toS_f1, List.length_map, tdiv_half X.length hXl]
    have hr := allS_getD hR t
    have hih := ih (t + 1) (first (R.getD t 0) X) (by omega) (by rw [first_length]; omega) (allS_first hl hX hr)
    rw [← w64_succ ht' (show R.length ≤ 4611686018427387904 by omega)] at hih
    have := First_l1 hl X hXl hX (R.getD t 0) hr (R.map toS) (R.length : Int) (t : Int) hih (X.length / 2) 0 X (by omega) rfl (fun j hj => by omega) (fun j _ => rfl)
    have e : firsts (R.drop t) X = firsts (R.drop (t + 1)) (first (R.getD t 0) X) := by
      rw [List.drop_eq_getElem_cons ht', firsts]
      congr 2
      rw [List.getD_eq_getElem?_getD, List.getElem?_eq_getElem ht']; rfl
    rw [e]; exact this
theorem clone_ev (X : List E) (hX : X.length ≤ 1000000) : Ev (fun q => slices_Clone62.f q (X.map toS)) (X.map toS) := ⟨0, fun q _ => by
  unfold slices_Clone62.f
  rw [if_pos (by rw [List.length_nil, List.length_map]; omega), List.nil_append]⟩
theorem First_ok {l : Nat} (hl : l ≤ 7) (X R : List E) (hXl : X.length ≤ 1000000) (hRl : R.length ≤ 1000000) (h : askS (l : Int) X R = 0) : Ev (fun q => cube_First.f q (l : Int) (X.map toS) (R.map toS)) ((firsts R X).map toS, 0) := by
  unfold cube_First.f
  have hh := h
  unfold askS at hh
  split at hh
  · split at hh
    · omega
    · split at hh
      · rename_i hall
        refine Ev.bnd (ask_ev _ X R hXl hRl) (Ev.pos h ?_)
        refine Ev.bnd (clone_ev X hXl) ?_
        rw [List.length_map]
        exact First_l0 hl R hall.2 hRl R.length 0 X (by omega) hXl hall.1
      · omega
  · omega
theorem First_err (L : Int) (X R : List E) (hXl : X.length ≤ 1000000) (hRl : R.length ≤ 1000000) (h : askS L X R ≠ 0) : Ev (fun q => cube_First.f q L (X.map toS) (R.map toS)) ([], askS L X R) := by
  unfold cube_First.f
  exact Ev.bnd (ask_ev L X R hXl hRl) (Ev.neg h (Ev.ret _))
/-- A value, or the error. -/
def atErr (L : Int) (X P : List E) : Int := if LvS L then (if logI (X.length : Int) = (P.length : Int) then (if AllS L X ∧ AllS L P then 0 else 5) else 6) else 1
theorem log_len {X : List E} {k : Nat} (h : logI (X.length : Int) = (k : Int)) : X.length = 2 ^ k := by
  rcases logI_inv (X.length : Int) with e | ⟨m, _, h3, h4⟩
  · omega
  · have : m = k := by omega
    subst this; omega
theorem At_ev (L : Int) (X P : List E) (hXl : X.length ≤ 1000000) (hPl : P.length ≤ 1000000) : Ev (fun q => cube_At.f q L (X.map toS) (P.map toS)) (if atErr L X P = 0 then (toS (value X P), 0) else (toS 0, atErr L X P)) := by
  unfold cube_At.f
  rw [List.length_map, List.length_map]
  by_cases hL : LvS L
  · obtain ⟨v, hv, hw⟩ := wide_in hL
    refine Ev.bnd hw (Ev.neg hv (Ev.bnd (Log_ev _) ?_))
    by_cases hlog : logI (X.length : Int) = (P.length : Int)
    · refine Ev.pos hlog ?_
      have hask : askS L X P = (if AllS L X ∧ AllS L P then 0 else 5) := by
        unfold askS; rw [if_pos hL, if_neg (by rw [hlog]; omega)]
      have hat : atErr L X P = askS L X P := by unfold atErr; rw [if_pos hL, if_pos hlog, hask]
      rw [hat]
      by_cases h0 : askS L X P = 0
      · rw [if_pos h0]
        obtain ⟨hL0, hL7⟩ := hL
        obtain ⟨l, rfl⟩ := Int.eq_ofNat_of_zero_le hL0
        have hp := log_len hlog
        refine Ev.bnd (First_ok (by omega) X P hXl hPl h0) (Ev.pos rfl (Ev.pos ?_ (Ev.ret' ?_)))
        · rw [List.length_map, firsts_length P X P.length hp (Nat.le_refl _), Nat.sub_self]; decide
        · have e : rd34 ((firsts P X).map toS) 0 = toS (value X P) := by
            have := rdS (firsts P X) 0
            rw [value_eq X P hp]; exact this
          rw [e]
      · rw [if_neg h0, toS_zero]
        exact Ev.bnd (First_err L X P hXl hPl h0) (Ev.neg h0 (Ev.ret _))
    · have hat : atErr L X P = 6 := by unfold atErr; rw [if_pos hL, if_neg hlog]
      rw [hat, if_neg (by decide), toS_zero]
      exact Ev.neg hlog (Ev.ret _)
  · have hat : atErr L X P = 1 := by unfold atErr; rw [if_neg hL]
    rw [hat, if_neg (by decide), toS_zero]
    exact Ev.bnd (wide_out hL) (Ev.pos rfl (Ev.ret _))
end Go.Proofs.Ytfmjodlcjaflfaa.Sp
namespace Go.Proofs.Ytfmjodlcjaflfaa.Sp
open Go.Proofs.Ytfmjodlcjaflfaa.V.B Go.RowKit Go.Proofs.Ytfmjodlcjaflfaa.B Go.Proofs.Ytfmjodlcjaflfaa.V.B.Ar Go.Proofs.Ytfmjodlcjaflfaa.V.B.Tw
set_option linter.unusedVariables false
theorem Ev.at {α : Type} {g : Nat → Option α} {r : α} (K : Nat) (h : ∀ k, g (k + K) = some r) : Ev g r := ⟨K, fun k hk => by
  obtain ⟨d, rfl⟩ := Nat.le.dest hk
  rw [Nat.add_comm]; exact h d⟩
theorem fine_ev : Ev (fun k => steepletop_fine.f k) true := Ev.at 400 fun k => by kernel_rfl
/-- The packed table at a point, from its parts. -/
theorem parts_sum {l : Nat} (B : List Bool) (V : List E) : sumN (fun v => bitE v * (partsL l B V).getD v 0) (2 ^ l) = value (packsL l B (2 ^ V.length)) V := by
  unfold value
  rw [packsL_length]
  have e1 : sumN (fun v => bitE v * (partsL l B V).getD v 0) (2 ^ l) = sumN (fun v => sumN (fun x => pick (B.getD (x * 2 ^ l + v) false) (bitE v * weight V x)) (2 ^ V.length)) (2 ^ l) := by
    refine sumN_congr _ fun v hv => ?_
    have : (partsL l B V).getD v 0 = partN (2 ^ l) B V (2 ^ V.length) v := tabL_getD _ _ v hv
    rw [this]
    unfold partN
    rw [← sumN_mul]
    exact sumN_congr _ fun x _ => pick_mulL _ _ _
  have e2 : sumN (fun i => (packsL l B (2 ^ V.length)).getD i 0 * weight V i) (2 ^ V.length) = sumN (fun x => sumN (fun v => pick (B.getD (x * 2 ^ l + v) false) (bitE v * weight V x)) (2 ^ l)) (2 ^ V.length) := by
    refine sumN_congr _ fun x hx => ?_
    have : (packsL l B (2 ^ V.length)).getD x 0 = packX (2 ^ l) B x := tabL_getD _ _ x hx
    rw [this]
    unfold packX
    rw [← sumN_mulr]
    exact sumN_congr _ fun v _ => by rw [← pick_mul]
  rw [e1, e2]
  exact sumN_swap _ _ _
end Go.Proofs.Ytfmjodlcjaflfaa.Sp
namespace Go.Proofs.Ytfmjodlcjaflfaa.Pure
open Go.Proofs.Ytfmjodlcjaflfaa.V.B Go.RowKit Go.Proofs.Ytfmjodlcjaflfaa.B Go.Proofs.Ytfmjodlcjaflfaa.V.B.Ar Go.Proofs.Ytfmjodlcjaflfaa.V.B.Tw Go.Proofs.Ytfmjodlcjaflfaa.Sp
set_option linter.unusedVariables false
theorem switch_j2 : Ev (fun k => steepletop_TopSwitch.j2 k) true := Ev.step (fun k => by rw [steepletop_TopSwitch.j2]) (Ev.bnd fine_ev (Ev.ret _))
theorem switch_j7 : Ev (fun k => steepletop_TopSwitch.j7 k) true := Ev.step (fun k => by rw [steepletop_TopSwitch.j7]) (Ev.ret _)
theorem switch_l13 {l : Nat} (hl : l ≤ 7) (a b c : Int) (h0 : a = 0 ∧ b = 0 ∧ c = 0) (X : List E) (hX : X.length = 2 ^ l) (aX : AllS (l : Int) X) (m p s : E) (hmp : m = p) (hs : s = sumN (fun v => bitE v * X.getD v 0) (2 ^ l)) :
    Ev (fun k => steepletop_TopSwitch.l13 k (l : Int) a b c 0 (hi m) (lo m) (hi p) (lo p) (hi s) (lo s) (X.map toS) 0 0) true := by
  have h128 := w128 hl
  obtain ⟨rfl, rfl, rfl⟩ := h0
  subst hmp
  have hz : hi (sumN (fun v => bitE v * X.getD v 0) 0) = 0 ∧ lo (sumN (fun v => bitE v * X.getD v 0) 0) = 0 := by rw [sumN]; exact ⟨hi_zero, lo_zero⟩
  suffices key : Ev (fun k => steepletop_TopSwitch.l13 k (l : Int) 0 0 0 ((0 : Nat) : Int) (hi m) (lo m) (hi m) (lo m) (hi s) (lo s) (X.map toS) (hi (sumN (fun v => bitE v * X.getD v 0) 0)) (lo (sumN (fun v => bitE v * X.getD v 0) 0))) true by
    rw [hz.1, hz.2] at key
    exact key
  refine Ev.down (g := fun i k => steepletop_TopSwitch.l13 k (l : Int) 0 0 0 (i : Int) (hi m) (lo m) (hi m) (lo m) (hi s) (lo s) (X.map toS) (hi (sumN (fun v => bitE v * X.getD v 0) i)) (lo (sumN (fun v => bitE v * X.getD v 0) i))) (n := 2 ^ l) ?_ fun i hil hih => ?_
  · refine Ev.step (fun k => by rw [steepletop_TopSwitch.l13]) (Ev.neg (by rw [List.length_map, hX]; exact Int.lt_irrefl _) ?_)
    exact Ev.pos rfl (Ev.pos rfl (Ev.pos rfl (Ev.pos ⟨rfl, rfl⟩ (Ev.ret' (decide_eq_true (by rw [hs]; exact ⟨rfl, rfl⟩))))))
  · have f1 : i < (X.map toS).length := by rw [List.length_map, hX]; exact hil
    have f0 : (i : Int) < ((X.map toS).length : Int) := by omega
    rw [sumN] at hih
    refine Ev.step (fun k => by rw [steepletop_TopSwitch.l13]) (Ev.pos f0 (Ev.bnd (towerBit_ev i (by omega)) (Ev.ixS f1 ?_)))
    rw [rdS, w64_succ hil (by omega)]
    exact Ev.bnd (Mul_ev hl (bitE_in hl hil) (allS_getD aX i)) (Ev.bnd (Add_ev _ _) hih)
theorem TopSwitch : Stated.topSwitch.Pure := by
  rintro L ⟨B, WS, HS⟩ ⟨SS, VS⟩ _ ⟨_, _, hHS, _⟩ ⟨⟨hSS, _⟩, hVS, _⟩
  obtain ⟨S, rfl⟩ := list_of SS hSS
  obtain ⟨H, rfl⟩ := list_of HS hHS
  obtain ⟨V, rfl⟩ := list_of VS hVS
  clear hSS hHS hVS
  refine Ev.rounds (g := fun k => steepletop_TopSwitch.f k L ⟨B, WS, H.map toS⟩ ⟨S.map toS, V.map toS⟩) ?_
  unfold steepletop_TopSwitch.f
  dsimp only
  rw [List.length_map, List.length_map, List.length_map]
  refine Ev.both (fun _ => switch_j2) fun c1 => Ev.both (fun _ => switch_j2) fun c2 => Ev.both (fun _ => switch_j2) fun c3 => Ev.both (fun _ => switch_j2) fun c4 => Ev.both (fun _ => switch_j2) fun c5 => Ev.both (fun _ => switch_j2) fun c6 => ?_
  refine Ev.bnd fine_ev (Ev.neg (by decide) (Ev.bnd (Pack_ev L B (by omega)) (Ev.bnd (Mask_ev L H S (by omega) (by omega)) (Ev.bnd (rAt_ev L H S V (by omega) (by omega) (by omega)) ?_))))
  refine Ev.both (fun d1 => ?_) fun _ => switch_j7
  refine Ev.both (fun d2 => ?_) fun _ => switch_j7
  refine Ev.both (fun d3 => ?_) fun _ => switch_j7
  have d1 : askB L B.length = 0 := d1
  have d2 : maskE L H S = 0 := d2
  have d3 : ratE L H S V = 0 := d3
  obtain ⟨l, m, rfl, hl, hlm, hm, hn, hg⟩ := ask_in d1
  obtain ⟨l', hll, _, h12, hSl, aH, aS⟩ := mask_in d2
  have : l' = l := by omega
  subst this
  have hV : V.length = H.length ∧ AllS (l' : Int) V := by
    unfold ratE at d3
    rw [if_pos d2] at d3
    by_cases c : V.length = H.length
    · rw [if_pos c] at d3
      by_cases c2 : AllS (l' : Int) V
      · exact ⟨c, c2⟩
      · rw [if_neg c2] at d3; exact absurd d3 (by decide)
    · rw [if_neg c] at d3; exact absurd d3 (by decide)
  obtain ⟨hVl, aV⟩ := hV
  have hp : (2 : Nat) ^ H.length ≤ 4096 := Nat.pow_le_pow_right (n := 2) (by decide) h12
  have hBl : B.length = 2 ^ (m - l') * 2 ^ l' := by rw [hn, ← Nat.pow_add]; congr 1; omega
  have e1 : packO (l' : Int) B = packsL l' B (2 ^ (m - l')) := by
    unfold packO; rw [if_pos d1, Int.toNat_natCast, hBl, Nat.mul_div_cancel _ (Nat.two_pow_pos _)]
  have e2 : maskO (l' : Int) H S = masksL H S := if_pos d2
  have e3 : ratX (l' : Int) H S V = value (masksL H S) V := if_pos d3
  rw [e1, e2, e3]
  dsimp only
  rw [List.length_map, List.length_map, masksL_length, packsL_length]
  refine Ev.both (fun d4 => ?_) fun _ => switch_j7
  have d4' : 2 ^ H.length = 2 ^ (m - l') := by omega
  have hml : m - l' = V.length := by
    rw [hVl]
    rcases Nat.lt_trichotomy (m - l') H.length with g | g | g
    · have := Nat.pow_lt_pow_right (a := 2) (by decide) g; omega
    · exact g
    · have := Nat.pow_lt_pow_right (a := 2) (by decide) g; omega
  rw [← hVl] at hp
  have lgm : logI (((masksL H S).length : Nat) : Int) = (V.length : Int) := by rw [masksL_length, ← hVl]; exact logI_pow (by omega)
  have lgp : logI (((packsL l' B (2 ^ V.length)).length : Nat) : Int) = (V.length : Int) := by rw [packsL_length]; exact logI_pow (by omega)
  have hL : LvS (l' : Int) := ⟨by omega, by omega⟩
  have a1 := At_ev (l' : Int) (masksL H S) V (by rw [masksL_length, ← hVl]; omega) (by omega)
  have z1 : atErr (l' : Int) (masksL H S) V = 0 := by unfold atErr; rw [if_pos hL, if_pos lgm, if_pos ⟨masksL_all hl aS, aV⟩]
  rw [if_pos z1] at a1
  rw [hml]
  have a2 := At_ev (l' : Int) (packsL l' B (2 ^ V.length)) V (by rw [packsL_length]; omega) (by omega)
  have z2 : atErr (l' : Int) (packsL l' B (2 ^ V.length)) V = 0 := by unfold atErr; rw [if_pos hL, if_pos lgp, if_pos ⟨packsL_all hl B _, aV⟩]
  rw [if_pos z2] at a2
  have a3 := Parts_ev (l' : Int) B V
  have z3 : partsE (l' : Int) B V = 0 := by unfold partsE; rw [if_pos d1, hg, if_pos (by omega), if_pos aV]
  have z4 : partsO (l' : Int) B V = partsL l' B V := by unfold partsO; rw [if_pos z3, Int.toNat_natCast]
  rw [z3, z4] at a3
  refine Ev.bnd a1 (Ev.bnd a2 (Ev.bnd a3 ?_))
  exact switch_l13 hl 0 0 0 ⟨rfl, rfl, rfl⟩ (partsL l' B V) (partsL_length l' B V) (partsL_all hl B aV) _ _ _ rfl (parts_sum B V).symm
end Go.Proofs.Ytfmjodlcjaflfaa.Pure
namespace Go.Proofs.Ytfmjodlcjaflfaa.topSwitch
open Go.Proofs.Ytfmjodlcjaflfaa.V.B Go.ChangeShapes Go.WideShapes Go.ChangeAt Go.RowKit Go.Proofs.Ytfmjodlcjaflfaa.B
set_option linter.unusedVariables false
set_option linter.unusedSimpArgs false
theorem own : ownKnob Try.prog.godebug = none := by kernel_rfl
theorem laidOut : laidOutB Try.prog = true := by kernel_rfl
def tab1 : Tab := ⟨[(3, .int .i64), (4, .bool), (22, .slice .bool), (23, .slice (.st 0)), (25, .st 1), (32, .int .u64), (34, .st 0), (44, .st 5)], [], [(22, 1), (23, 16)], [], []⟩
theorem tab1_ok : tab1.chk E Try.prog = true := by kernel_rfl
theorem tie1 (calls : Nat → Option (Sig E.toTys)) : Tie (XR E) Try.prog (tab1.ctx calls) := tie_of zl_ok tab1_ok calls
theorem sts : chkSt E Try.prog tab1 tab1.tys = true := by kernel_rfl
set_option maxRecDepth 100000 in
theorem lifted (os : Os) (started : os.Started) (H : Type) (enc : TypeId × Value → H) :
    ReturnsInHanded {} Try.checked os 4 .any (Rows.topSwitchSpec.pre6 enc Try.prog Try.f4 Rows.topSwitchRow.domain false) (Rows.topSwitchSpec.post enc Try.prog Try.f4 false true false false) := by
  refine returnsInHanded_of_change_sized (C := Try.checked) own started (by kernel_rfl) Try.func4
    (ChangeSpec.witness6 (enc := enc) (C := Try.checked) false ⟨#[], #[.int .i64 0, .agg #[.slice none 0 0, .slice none 0 0, .slice none 0 0], .agg #[.slice none 0 0, .slice none 0 0]], []⟩ 8 (by kernel_rfl) (by kernel_rfl) (by kernel_rfl) (by kernel_rfl)) ?_
  intro W base args ds gs before hval0 hW hcnd hsz0 _
  have hval : ∀ (j : Nat) t v, Try.f4.params[j]? = some t → args[j]? = some v → Value.okWide Try.prog W .any base t v := hval0
  have hW' := hW
  obtain ⟨p, q, hA0, hV, rfl, hfz, hnd⟩ := hW
  have hA : DataW.TrodAll enc Try.prog W 0 (fun _ => true) true Try.f4.params.toList args.toList ds p := hA0
  rw [Try.params4] at hA hval
  obtain ⟨v0, vs0, d0, ds0, p0, q0, hargs, rfl, rfl, h0, r0⟩ := trodAll_cons hA
  obtain ⟨v1, vs1, d1, ds1, p1, q1, rfl, rfl, rfl, h1, r1⟩ := trodAll_cons r0
  obtain ⟨v2, vs2, d2, ds2, p2, q2, rfl, rfl, rfl, h2, r2⟩ := trodAll_cons r1
  obtain ⟨rfl, rfl, rfl⟩ := trodAll_nil r2
  obtain rfl : args = #[v0, v1, v2] := by cases args; simp_all
  obtain ⟨rfl, rfl⟩ := trodVars_none hV
  have k0 := h0
  have lt0 : ∀ x ∈ p0, x.block < W.heap.size := by obtain ⟨m, hm⟩ := k0; exact DataW.trod_lt m _ _ _ hm
  obtain ⟨x0, cs0, e0, R0, g0⟩ := arg_ok tie1 sts (t := 3) (ty := .int .i64) rfl rfl (hval 0 3 v0 rfl rfl) h0
  have k1 := h1
  have lt1 : ∀ x ∈ p1, x.block < W.heap.size := by obtain ⟨m, hm⟩ := k1; exact DataW.trod_lt m _ _ _ hm
  obtain ⟨x1, cs1, e1, R1, g1⟩ := arg_ok tie1 sts (t := 25) (ty := .st 1) rfl rfl (hval 1 25 v1 rfl rfl) h1
  have k2 := h2
  have lt2 : ∀ x ∈ p2, x.block < W.heap.size := by obtain ⟨m, hm⟩ := k2; exact DataW.trod_lt m _ _ _ hm
  obtain ⟨x2, cs2, e2, R2, g2⟩ := arg_ok tie1 sts (t := 44) (ty := .st 5) rfl rfl (hval 2 44 v2 rfl rfl) h2
  clear hA0 hval0 hsz0
  obtain ⟨k, hpure⟩ := Pure.TopSwitch x0 x1 x2 (g0 4) (g1 4) (g2 4)
  refine ((steepletop_TopSwitch.ok k).1 (x0, (x1, (x2, ()))) true hpure W (fun b => b < W.heap.size) [v0, v1, v2] (fun b hb => hb) ⟨_, _, cs0, rfl, R0, e0, ⟨_, _, cs1, rfl, R1, e1, ⟨_, _, cs2, rfl, R2, e2, rfl⟩⟩⟩).mono fun e W2 hh => ?_
  obtain ⟨rfl, bel⟩ := ret_bool hh
  exact ⟨_, rfl, _, _, _, [], _, [], hW', trodAll_mk1 (shut_bool Try.underlying4 _), (trodAll_cons_mk (Below.trod laidOut (by kernel_rfl) (of_decide_eq_true (by kernel_rfl)) k0 bel lt0) (trodAll_cons_mk (Below.trod laidOut (by kernel_rfl) (of_decide_eq_true (by kernel_rfl)) k1 bel lt1) (trodAll_cons_mk (Below.trod laidOut (by kernel_rfl) (of_decide_eq_true (by kernel_rfl)) k2 bel lt2) trodAll_mk0))), rfl, bel.frame _, fun h => by cases h⟩
theorem over : Rows.topSwitchRow.holds Try.pinned (OpenSpec.ofChange Rows.topSwitchSpec) :=
  OpenClaim.holds_of_wide 4 Try.f4 rfl rfl rfl rfl rfl rfl rfl ⟨rfl, rfl, rfl, rfl, rfl⟩ rfl rfl rfl rfl rfl (by kernel_rfl) Try.func4 (by kernel_rfl)
    (of_decide_eq_true (by kernel_rfl)) (by unfold Func.isWrapper; first | (rw [if_pos (by decide +kernel)]; kernel_rfl) | (rw [if_neg (by decide +kernel)]; exact ⟨rfl, rfl⟩))
    (fun os started H enc _ => lifted os started H enc)
end Go.Proofs.Ytfmjodlcjaflfaa.topSwitch
namespace Go.Proofs.Ytfmjodlcjaflfaa
/-- The law, for every input. -/
theorem topSwitch_holds : Rows.TopSwitchSaid := topSwitch.over
#print axioms topSwitch_holds
end Go.Proofs.Ytfmjodlcjaflfaa

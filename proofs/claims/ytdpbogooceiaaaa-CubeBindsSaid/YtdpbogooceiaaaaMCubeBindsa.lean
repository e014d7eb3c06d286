/- CubeBinds: tables bound in their first or last variables are as the document says, or the errors agree, and they have the values that the table has; for tables of up to 70 elements, up to 8 elements to bind by, points of up to 8. Own text. -/
import Derived.Test.YtdpbogooceiaaaaRows
import Derived.WalkKit
import Derived.ProofKit
import Derived.OpenShut
import Derived.ShutString
import Derived.ChangeOld
import Derived.Below
import Derived.SizedLaws
import Derived.Carry
import Derived.Test.YtdpbogooceiaaaaMBa
import Derived.Test.YtdpbogooceiaaaaMBb
import Derived.Test.YtdpbogooceiaaaaMBc
import Derived.Test.YtdpbogooceiaaaaMFa
import Derived.Test.YtdpbogooceiaaaaMFb
set_option linter.unusedSimpArgs false
set_option linter.unusedVariables false
namespace Go.Proofs.Ytdpbogooceiaaaa.Stated.cubeBinds
open Go.Proofs.Ytdpbogooceiaaaa.V.B Go.RowKit Go.Proofs.Ytdpbogooceiaaaa.B
def Pure : Prop := ∀ (x0 : Int) (x1 : List S38) (x2 : S45), ((Lit.int .i64 x0).wf = true) → ((∀ y0 ∈ x1, ((Lit.int .u64 y0.f0).wf = true) ∧ ((Lit.int .u64 y0.f1).wf = true)) ∧ x1.length ≤ maxLen) → (((∀ y0 ∈ x2.f0, ((Lit.int .u64 y0.f0).wf = true) ∧ ((Lit.int .u64 y0.f1).wf = true)) ∧ x2.f0.length ≤ maxLen) ∧ ((∀ y0 ∈ x2.f1, ((Lit.int .u64 y0.f0).wf = true) ∧ ((Lit.int .u64 y0.f1).wf = true)) ∧ x2.f1.length ≤ maxLen)) → ∃ k, steeplelaw15_CubeBinds.f k x0 x1 x2 = some true
end Go.Proofs.Ytdpbogooceiaaaa.Stated.cubeBinds
namespace Go.Proofs.Ytdpbogooceiaaaa.Sp
open Go.Proofs.Ytdpbogooceiaaaa.V.B Go.RowKit Go.Proofs.Ytdpbogooceiaaaa.B Go.Proofs.Ytdpbogooceiaaaa.V.B.Ar Go.Proofs.Ytdpbogooceiaaaa.V.B.Tw
set_option linter.unusedVariables false
set_option linter.unusedSimpArgs false
theorem Q_le_64 {n : Nat} (h : n ≤ 6) : Q n ≤ 2 ^ 64 := Q_mono h
theorem Q_dvd {n : Nat} : Q n = 2 ^ 2 ^ n := rfl
theorem two_pow_le_32 {n : Nat} (h : n ≤ 5) : 2 ^ n ≤ 32 := Nat.pow_le_pow_right (n := 2) (by decide) h
theorem w64_pred {l : Nat} (h : l + 1 ≤ 1000) : wrap64 (((l + 1 : Nat) : Int) - 1) = (l : Int) := by rw [w64_id (by omega) (by omega)]; omega
theorem Q_lt_64 {n : Nat} (h : n ≤ 5) : Q n < 2 ^ 64 := Nat.pow_lt_pow_right (by decide) (by have := two_pow_le_32 h; omega)
theorem halves_eq (k : Nat) {l : Nat} (hl : l ≤ 5) (x : Nat) (hx : x < 2 ^ 64) : tower_halves.f k ((l + 1 : Nat) : Int) (x : Int) = some (((x / Q l : Nat) : Int), ((x % Q l : Nat) : Int)) := by
  unfold tower_halves.f
  have h32 := two_pow_le_32 hl
  have hQ := Q_lt_64 hl
  have hm : IntKind.u64.wrap (((2 ^ 2 ^ l : Nat) : Int) - 1) = ((2 ^ 2 ^ l - 1 : Nat) : Int) := by
    have := Nat.two_pow_pos (2 ^ l)
    unfold Q at hQ
    generalize 2 ^ 2 ^ l = q at *
    rw [u64_id (by omega) (by omega)]; omega
  rw [w64_pred (by omega), if_pos (Int.natCast_nonneg _), shl_i64 l (by omega), if_pos (Int.natCast_nonneg _), shr_u64 x (2 ^ l) (by omega), shl_u64 (2 ^ l) (by omega), hm]
  rw [and_u64 x _ hx (by have := Nat.two_pow_pos (2 ^ l); unfold Q at hQ; omega), Nat.and_two_pow_sub_one_eq_mod]
  rfl
theorem join_eq (k : Nat) {l : Nat} (hl : l ≤ 5) (h x : Nat) (hh : h < Q l) (hx : x < Q l) : tower_join.f k ((l + 1 : Nat) : Int) (h : Int) (x : Int) = some ((h * Q l + x : Nat) : Int) := by
  unfold tower_join.f
  have h32 := two_pow_le_32 hl
  have hQ := Q_lt_64 hl
  have h6 : Q (l + 1) ≤ 2 ^ 64 := Q_le_64 (by omega)
  have hhx : h * Q l + Q l ≤ Q (l + 1) := by
    rw [Q_succ]
    have := Nat.mul_le_mul_right (Q l) hh
    rw [Nat.succ_mul] at this; exact this
  have hs : shl .u64 (h : Int) (((2 ^ l : Nat) : Int)) = ((h * Q l : Nat) : Int) := by
    unfold shl
    have h64 : IntKind.u64.bits = 64 := rfl
    rw [h64, Int.toNat_natCast, Nat.min_eq_left (by omega)]
    have hc : ((h : Int) * 2 ^ 2 ^ l) = ((h * Q l : Nat) : Int) := by unfold Q; simp
    rw [hc]
    have : h * Q l < 2 ^ 64 := by omega
    generalize h * Q l = z at *
    exact u64_id (by omega) (by omega)
  rw [w64_pred (by omega), if_pos (by omega), shl_u64 l (by omega), if_pos (Int.natCast_nonneg _), hs, or_u64 _ _ (by omega) (by omega)]
  congr 2
  unfold Q at *
  rw [Nat.mul_comm, ← Nat.two_pow_add_eq_or_of_lt hx]
theorem halves_ev {l : Nat} (hl : l ≤ 5) (x : Nat) (hx : x < 2 ^ 64) : Ev (fun k => tower_halves.f k ((l + 1 : Nat) : Int) (x : Int)) (((x / Q l : Nat) : Int), ((x % Q l : Nat) : Int)) := ⟨0, fun k _ => halves_eq k hl x hx⟩
theorem join_ev {l : Nat} (hl : l ≤ 5) (h x : Nat) (hh : h < Q l) (hx : x < Q l) : Ev (fun k => tower_join.f k ((l + 1 : Nat) : Int) (h : Int) (x : Int)) ((h * Q l + x : Nat) : Int) := ⟨0, fun k _ => join_eq k hl h x hh hx⟩
theorem mulX_ev : ∀ (l : Nat), l ≤ 6 → ∀ (x : Nat), x < Q l → Ev (fun k => tower_mulX.f k (l : Int) (x : Int)) ((val (gen l * of l x) : Nat) : Int) := by
  intro l
  induction l with
  | zero =>
    intro _ x hx
    refine Ev.step (fun k => by rw [tower_mulX.f]) (Ev.pos (by rfl) (Ev.ret' ?_))
    rw [gen_zero, one_mul, val_of 0 x hx]
  | succ l ih =>
    intro hl x hx
    have hx64 : x < 2 ^ 64 := Nat.lt_of_lt_of_le hx (Q_le_64 hl)
    have hd : x / Q l < Q l := Nat.div_lt_of_lt_mul (by rw [← Q_succ]; exact hx)
    have hm : x % Q l < Q l := Nat.mod_lt _ (Q_pos l)
    have hQ := Q_lt_64 (n := l) (by omega)
    refine Ev.step (fun k => by rw [tower_mulX.f]) (Ev.neg (by omega) (Ev.bnd (halves_ev (by omega) x hx64) ?_))
    simp only [w64_pred (show l + 1 ≤ 1000 by omega)]
    refine Ev.bnd (ih (by omega) _ hd) ?_
    have hv := val_lt (gen l * of l (x / Q l))
    simp only [xor_u64 _ _ (Nat.lt_trans hm hQ) (Nat.lt_trans hv hQ)]
    refine Ev.bnd (join_ev (by omega) _ _ (xor_lt hm hv) hd) (Ev.ret' ?_)
    congr 1
    rw [val_succ (gen (l + 1) * of (l + 1) x)]
    congr 1
    · congr 1
      have e : (gen (l + 1) * of (l + 1) x).1 = of l (x % Q l) + gen l * of l (x / Q l) := by
        rw [mul_fst, gen_fst, gen_snd, one_mul, zero_mul, one_mul, add_zero]; rfl
      rw [e, val_add, val_of _ _ hm]
    · have e : (gen (l + 1) * of (l + 1) x).2 = of l (x / Q l) := by
        rw [mul_snd, gen_fst, gen_snd, one_mul, zero_mul, zero_add]; rfl
      rw [e, val_of _ _ hd]
theorem karatsuba {n : Nat} (a1 a0 b1 b0 z : T n) : (a1 + a0) * (b1 + b0) + a1 * b1 + a0 * b0 + z = (a1 * b0 + a0 * b1) + z := by
  have : (a1 + a0) * (b1 + b0) + a1 * b1 + a0 * b0 = a1 * b0 + a0 * b1 := by
    simp only [mul_add, add_mul]
    have : ∀ p q r s : T n, p + q + (r + s) + p + s = q + r := fun p q r s => by
      rw [add_comm p q, add_assoc, add_assoc, add_assoc]
      rw [show p + (r + s + (p + s)) = (p + p) + (r + (s + s)) by simp only [add_assoc, add_left_comm, add_comm]]
      rw [add_self, add_self, zero_add, add_zero]
    rw [show a1 * b1 + a0 * b1 + (a1 * b0 + a0 * b0) = a1 * b1 + a0 * b1 + (a1 * b0 + a0 * b0) from rfl, this, add_comm]
  rw [this]
theorem mul_ev : ∀ (l : Nat), l ≤ 6 → ∀ (x y : Nat), x < Q l → y < Q l → Ev (fun k => tower_mul.f k (l : Int) (x : Int) (y : Int)) ((val (of l x * of l y) : Nat) : Int) := by
  intro l
  have hz : ∀ (l : Nat), l ≤ 6 → ∀ (x y : Nat), x < Q l → y < Q l → (l = 0 ∨ x = 0 ∨ y = 0) → Ev (fun k => tower_mul.j2 k (x : Int) (y : Int)) ((val (of l x * of l y) : Nat) : Int) := by
    intro l hl x y hx hy h
    have hQ := Q_le_64 hl
    refine Ev.step (fun k => by rw [tower_mul.j2]) (Ev.ret' ?_)
    rw [and_u64 x y (by omega) (by omega)]
    have hxy : x &&& y < 2 ^ 64 := Nat.and_lt_two_pow _ (by omega)
    rw [show (1 : Int) = ((1 : Nat) : Int) from rfl, and_u64 _ 1 hxy (by decide)]
    congr 1
    rcases h with rfl | rfl | rfl
    · have h1 : x < 2 := hx
      have h2 : y < 2 := hy
      rcases (by omega : x = 0 ∨ x = 1) with rfl | rfl <;> rcases (by omega : y = 0 ∨ y = 1) with rfl | rfl <;> rfl
    · rw [of_zero, zero_mul, val_zero]; simp
    · rw [of_zero, mul_zero, val_zero]; simp
  induction l with
  | zero =>
    intro hl x y hx hy
    exact Ev.step (fun k => by rw [tower_mul.f]) (Ev.pos (by rfl) (hz 0 hl x y hx hy (Or.inl rfl)))
  | succ l ih =>
    intro hl x y hx hy
    refine Ev.step (fun k => by rw [tower_mul.f]) (Ev.neg (by omega) ?_)
    by_cases hx0 : x = 0
    · exact Ev.pos (by omega) (hz (l + 1) hl x y hx hy (Or.inr (Or.inl hx0)))
    refine Ev.neg (by omega) ?_
    by_cases hy0 : y = 0
    · exact Ev.pos (by omega) (hz (l + 1) hl x y hx hy (Or.inr (Or.inr hy0)))
    refine Ev.neg (by omega) ?_
    have hQ := Q_lt_64 (n := l) (by omega)
    have hx64 : x < 2 ^ 64 := Nat.lt_of_lt_of_le hx (Q_le_64 hl)
    have hy64 : y < 2 ^ 64 := Nat.lt_of_lt_of_le hy (Q_le_64 hl)
    have hxd : x / Q l < Q l := Nat.div_lt_of_lt_mul (by rw [← Q_succ]; exact hx)
    have hxm : x % Q l < Q l := Nat.mod_lt _ (Q_pos l)
    have hyd : y / Q l < Q l := Nat.div_lt_of_lt_mul (by rw [← Q_succ]; exact hy)
    have hym : y % Q l < Q l := Nat.mod_lt _ (Q_pos l)
    have hl5 : l ≤ 5 := by omega
    refine Ev.bnd (halves_ev hl5 x hx64) (Ev.bnd (halves_ev hl5 y hy64) ?_)
    simp only [w64_pred (show l + 1 ≤ 1000 by omega)]
    refine Ev.bnd (ih (by omega) _ _ hxd hyd) (Ev.bnd (ih (by omega) _ _ hxm hym) ?_)
    simp only [xor_u64 _ _ (Nat.lt_trans hxd hQ) (Nat.lt_trans hxm hQ), xor_u64 _ _ (Nat.lt_trans hyd hQ) (Nat.lt_trans hym hQ)]
    refine Ev.bnd (ih (by omega) _ _ (xor_lt hxd hxm) (xor_lt hyd hym)) ?_
    have v1 := val_lt (of l (x / Q l) * of l (y / Q l))
    have v2 := val_lt (of l (x % Q l) * of l (y % Q l))
    have v3 := val_lt (of l (x / Q l ^^^ x % Q l) * of l (y / Q l ^^^ y % Q l))
    refine Ev.bnd (mulX_ev l (by omega) _ v1) ?_
    have v4 := val_lt (gen l * of l (val (of l (x / Q l) * of l (y / Q l))))
    simp only [xor_u64 _ _ (Nat.lt_trans v3 hQ) (Nat.lt_trans v1 hQ), xor_u64 _ _ (Nat.lt_trans (xor_lt v3 v1) hQ) (Nat.lt_trans v2 hQ), xor_u64 _ _ (Nat.lt_trans (xor_lt (xor_lt v3 v1) v2) hQ) (Nat.lt_trans v4 hQ), xor_u64 _ _ (Nat.lt_trans v2 hQ) (Nat.lt_trans v1 hQ)]
    refine Ev.bnd (join_ev (by omega) _ _ (xor_lt (xor_lt (xor_lt v3 v1) v2) v4) (xor_lt v2 v1)) (Ev.ret' ?_)
    congr 1
    rw [val_succ (of (l + 1) x * of (l + 1) y)]
    congr 1
    · congr 1
      rw [mul_fst, of_succ, of_succ, mk_fst, mk_snd, mk_fst, mk_snd, ← karatsuba, val_add, val_add, val_add, of_xor hxd hxm, of_xor hyd hym, of_val]
    · rw [mul_snd, of_succ, of_succ, mk_fst, mk_snd, mk_fst, mk_snd, val_add]
end Go.Proofs.Ytdpbogooceiaaaa.Sp
namespace Go.Proofs.Ytdpbogooceiaaaa.Sp
open Go.Proofs.Ytdpbogooceiaaaa.V.B Go.RowKit Go.Proofs.Ytdpbogooceiaaaa.B Go.Proofs.Ytdpbogooceiaaaa.V.B.Ar Go.Proofs.Ytdpbogooceiaaaa.V.B.Tw
set_option linter.unusedVariables false
set_option linter.unusedSimpArgs false
abbrev E := T 7
/-- The higher and the lower word. -/
def hi (x : E) : Int := ((val x.1 : Nat) : Int)
def lo (x : E) : Int := ((val x.2 : Nat) : Int)
def el (h l : Int) : E := mk (of 6 h.toNat) (of 6 l.toNat)
theorem hi_el {h l : Int} (h0 : 0 ≤ h) (h1 : h < 18446744073709551616) : hi (el h l) = h := by
  unfold hi el; rw [mk_fst, val_of 6 _ (by rw [Q_six]; omega)]; omega
theorem lo_el {h l : Int} (h0 : 0 ≤ l) (h1 : l < 18446744073709551616) : lo (el h l) = l := by
  unfold lo el; rw [mk_snd, val_of 6 _ (by rw [Q_six]; omega)]; omega
theorem hl_inj {x y : E} (h : hi x = hi y) (l : lo x = lo y) : x = y := by
  unfold hi lo at *; exact ext (val_inj (by omega)) (val_inj (by omega))
theorem hi_zero : hi 0 = 0 := by unfold hi; rw [zero_fst, val_zero]; rfl
theorem lo_zero : lo 0 = 0 := by unfold lo; rw [zero_snd, val_zero]; rfl
theorem hi_one : hi 1 = 0 := by unfold hi; rw [one_fst, val_zero]; rfl
theorem lo_one : lo 1 = 1 := by unfold lo; rw [one_snd, val_one]; rfl
theorem hi_bd (x : E) : 0 ≤ hi x ∧ hi x < 18446744073709551616 := by
  unfold hi; have := val_lt x.1; rw [Q_six] at this; omega
theorem lo_bd (x : E) : 0 ≤ lo x ∧ lo x < 18446744073709551616 := by
  unfold lo; have := val_lt x.2; rw [Q_six] at this; omega
theorem val_hl (x : E) : val x = (hi x).toNat * 18446744073709551616 + (lo x).toNat := by
  unfold hi lo; rw [val_succ, Q_six]; simp
theorem eq_zero_iff (x : E) : x = 0 ↔ hi x = 0 ∧ lo x = 0 := ⟨fun h => by rw [h]; exact ⟨hi_zero, lo_zero⟩, fun h => hl_inj (h.1.trans hi_zero.symm) (h.2.trans lo_zero.symm)⟩
theorem xor_hi (x y : E) : Go.bits .xor .u64 (hi x) (hi y) = hi (x + y) := by
  unfold hi; rw [xor_u64 _ _ (val_lt x.1) (val_lt y.1), add_fst, val_add]
theorem xor_lo (x y : E) : Go.bits .xor .u64 (lo x) (lo y) = lo (x + y) := by
  unfold lo; rw [xor_u64 _ _ (val_lt x.2) (val_lt y.2), add_snd, val_add]
/-- Of a level. -/
def InL (l : Nat) (x : E) : Prop := val x < Q l
instance (l : Nat) (x : E) : Decidable (InL l x) := by unfold InL; infer_instance
def OfS (L : Int) (x : E) : Prop := 0 ≤ L ∧ L ≤ 7 ∧ InL L.toNat x
instance (L : Int) (x : E) : Decidable (OfS L x) := by unfold OfS; infer_instance
theorem inL_seven (x : E) : InL 7 x := val_lt x
theorem inL_zero (l : Nat) : InL l 0 := by unfold InL; rw [val_zero]; exact Q_pos l
theorem inL_one (l : Nat) : InL l 1 := by unfold InL; rw [val_one]; exact Nat.lt_of_lt_of_le (by decide : 1 < Q 0) (Q_mono (Nat.zero_le _))
theorem inL_mono {l m : Nat} (h : l ≤ m) {x : E} (hx : InL l x) : InL m x := Nat.lt_of_lt_of_le hx (Q_mono h)
theorem inL_add {l : Nat} {x y : E} (hx : InL l x) (hy : InL l y) : InL l (x + y) := by
  unfold InL at *; rw [val_add]; exact xor_lt hx hy
theorem inL_mul {l : Nat} (hl : l ≤ 7) {x y : E} (hx : InL l x) (hy : InL l y) : InL l (x * y) := by
  unfold InL at *; have := val_mul_lt hl hx hy; rwa [of_val, of_val] at this
theorem inL_six {x : E} : InL 6 x ↔ hi x = 0 := by
  unfold InL; have h := val_hl x; have h1 := hi_bd x; have h2 := lo_bd x
  rw [Q_six, h]; constructor <;> intro g <;> omega
theorem inL_low {l : Nat} (hl : l ≤ 6) {x : E} : InL l x ↔ hi x = 0 ∧ (lo x).toNat < Q l := by
  constructor
  · intro h
    have h6 := inL_six.1 (inL_mono hl h)
    refine ⟨h6, ?_⟩
    unfold InL at h; rw [val_hl, h6] at h; simpa using h
  · rintro ⟨h1, h2⟩
    unfold InL; rw [val_hl, h1]; simpa using h2
/-- The program's element, the document's. -/
@[reducible] def toS (x : E) : S38 := ⟨hi x, lo x⟩
@[reducible] def toR (x : E) : S51 := ⟨hi x, lo x⟩
def WfS (e : S38) : Prop := (0 ≤ e.f0 ∧ e.f0 < 18446744073709551616) ∧ (0 ≤ e.f1 ∧ e.f1 < 18446744073709551616)
theorem of_ev (L : Int) (x : E) : Ev (fun k => octet_Of.f k L (toS x)) (decide (OfS L x)) := by
  unfold octet_Of.f
  by_cases h0 : L < 0
  · refine Ev.pos h0 (Ev.ret' ?_)
    symm; rw [decide_eq_false_iff_not]; rintro ⟨h, _⟩; omega
  refine Ev.neg h0 ?_
  by_cases h7 : L > 7
  · refine Ev.pos h7 (Ev.ret' ?_)
    symm; rw [decide_eq_false_iff_not]; rintro ⟨_, h, _⟩; omega
  refine Ev.neg h7 ?_
  obtain ⟨l, rfl⟩ := Int.eq_ofNat_of_zero_le (show 0 ≤ L by omega)
  have hS : OfS (l : Int) x ↔ InL l x := by
    unfold OfS; rw [Int.toNat_natCast]; exact ⟨fun h => h.2.2, fun h => ⟨by omega, by omega, h⟩⟩
  by_cases c7 : (l : Int) = 7
  · refine Ev.pos c7 (Ev.ret' ?_)
    have : l = 7 := by omega
    subst this
    symm; rw [decide_eq_true_eq, hS]; exact inL_seven x
  refine Ev.neg c7 ?_
  by_cases c6 : (l : Int) = 6
  · refine Ev.pos c6 (Ev.ret' ?_)
    have : l = 6 := by omega
    subst this
    rw [decide_eq_decide, hS]; exact inL_six.symm
  refine Ev.neg c6 ?_
  have hl5 : l ≤ 5 := by omega
  have hl := inL_low (l := l) (by omega) (x := x)
  by_cases c0 : hi x = 0
  · have h32 := two_pow_le_32 hl5
    refine Ev.pos c0 (Ev.pos (Int.natCast_nonneg _) (Ev.pos (by rw [shl_u64 l (by omega)]; exact Int.natCast_nonneg _) (Ev.ret' ?_)))
    show decide (shr .u64 (lo x) _ = 0) = _
    have hlo : lo x = (((lo x).toNat : Nat) : Int) := by have := lo_bd x; omega
    rw [shl_u64 l (by omega), hlo, shr_u64 _ (2 ^ l) (by omega)]
    rw [decide_eq_decide, hS, hl]
    have hq : (lo x).toNat / 2 ^ 2 ^ l = 0 ↔ (lo x).toNat < Q l := by
      rw [Nat.div_eq_zero_iff]; unfold Q
      have := Nat.two_pow_pos (2 ^ l)
      omega
    constructor
    · intro h; exact ⟨c0, hq.1 (by exact_mod_cast h)⟩
    · rintro ⟨_, h⟩; exact_mod_cast hq.2 h
  · refine Ev.neg c0 (Ev.ret' ?_)
    symm; rw [decide_eq_false_iff_not, hS, hl]; exact fun h => c0 h.1
theorem Add_ev (x y : E) : Ev (fun k => tower_Add.f k (toS x) (toS y)) (toS (x + y)) := ⟨0, fun k _ => by
  show some (⟨bits .xor .u64 (hi x) (hi y), bits .xor .u64 (lo x) (lo y)⟩ : S38) = _
  rw [xor_hi, xor_lo]⟩
theorem refAdd_ev (x y : E) : Ev (fun k => steepleref02_Add.f k (toR x) (toR y)) (toR (x + y)) := ⟨0, fun k _ => by
  show some (⟨bits .xor .u64 (hi x) (hi y), bits .xor .u64 (lo x) (lo y)⟩ : S51) = _
  rw [xor_hi, xor_lo]⟩
theorem One_ev : Ev (fun k => tower_One.f k) (toS 1) := ⟨0, fun k _ => by unfold tower_One.f toS; rw [hi_one, lo_one]⟩
theorem toS_zero : toS 0 = z38 := by unfold toS; rw [hi_zero, lo_zero]; rfl
theorem Mul_out {L : Int} {x y : E} (h : ¬ (OfS L x ∧ OfS L y)) : Ev (fun k => tower_Mul.f k L (toS x) (toS y)) (toS 0) := by
  rw [toS_zero]
  unfold tower_Mul.f
  refine Ev.bnd (of_ev L x) ?_
  by_cases c : OfS L x
  · rw [decide_eq_true c]
    refine Ev.neg (by decide) (Ev.bnd (of_ev L y) ?_)
    rw [decide_eq_false (fun g => h ⟨c, g⟩)]
    exact Ev.pos rfl (Ev.ret _)
  · rw [decide_eq_false c]
    exact Ev.pos rfl (Ev.ret _)
theorem Mul_ev {l : Nat} (hl : l ≤ 7) {x y : E} (hx : InL l x) (hy : InL l y) : Ev (fun k => tower_Mul.f k (l : Int) (toS x) (toS y)) (toS (x * y)) := by
  unfold tower_Mul.f
  have hS : ∀ z, InL l z → OfS (l : Int) z := fun z hz => ⟨by omega, by omega, by rw [Int.toNat_natCast]; exact hz⟩
  refine Ev.bnd (of_ev (l : Int) x) ?_
  rw [decide_eq_true (hS x hx)]
  refine Ev.neg (by decide) (Ev.bnd (of_ev (l : Int) y) ?_)
  rw [decide_eq_true (hS y hy)]
  refine Ev.neg (by decide) ?_
  by_cases c : l ≤ 6
  · refine Ev.pos (by omega) ?_
    have ex := (inL_low c).1 hx
    have ey := (inL_low c).1 hy
    have e1 : lo x = (((lo x).toNat : Nat) : Int) := by have := lo_bd x; omega
    have e2 : lo y = (((lo y).toNat : Nat) : Int) := by have := lo_bd y; omega
    have ev := mul_ev l c (lo x).toNat (lo y).toNat ex.2 ey.2
    rw [← e1, ← e2] at ev
    refine Ev.bnd ev (Ev.ret' ?_)
    unfold toS
    have hz := (inL_low c).1 (inL_mul hl hx hy)
    have e3 : lo (x * y) = (((lo (x * y)).toNat : Nat) : Int) := by have := lo_bd (x * y); omega
    rw [hz.1, e3]
    congr 2
    have vx : val x = (lo x).toNat := by rw [val_hl, ex.1]; simp
    have vy : val y = (lo y).toNat := by rw [val_hl, ey.1]; simp
    have vz : val (x * y) = (lo (x * y)).toNat := by rw [val_hl, hz.1]; simp
    rw [← vz, ← vx, ← vy, ← val_mul_level hl hx hy, of_val, of_val]
  · have : l = 7 := by omega
    subst this
    refine Ev.neg (by decide) ?_
    have v1 := val_lt x.1
    have v2 := val_lt x.2
    have v3 := val_lt y.1
    have v4 := val_lt y.2
    have m1 := mul_ev 6 (by decide) _ _ v1 v3
    have m2 := mul_ev 6 (by decide) _ _ v2 v4
    have m3 := mul_ev 6 (by decide) _ _ (xor_lt v1 v2) (xor_lt v3 v4)
    rw [of_val, of_val] at m1 m2
    rw [← val_add, ← val_add, of_val, of_val] at m3
    have m4 := mulX_ev 6 (by decide) _ (val_lt (x.1 * y.1))
    rw [of_val] at m4
    refine Ev.bnd m1 (Ev.bnd m2 ?_)
    have e1 : Go.bits .xor .u64 (hi x) (lo x) = ((val (x.1 + x.2) : Nat) : Int) := by unfold hi lo; rw [xor_u64 _ _ v1 v2, val_add]
    have e2 : Go.bits .xor .u64 (hi y) (lo y) = ((val (y.1 + y.2) : Nat) : Int) := by unfold hi lo; rw [xor_u64 _ _ v3 v4, val_add]
    simp only [toS, e1, e2]
    refine Ev.bnd m3 (Ev.bnd m4 (Ev.ret' ?_))
    rw [xor_u64 _ _ (val_lt _) (val_lt _), ← val_add, xor_u64 _ _ (val_lt _) (val_lt _), ← val_add, xor_u64 _ _ (val_lt _) (val_lt _), ← val_add, xor_u64 _ _ (val_lt _) (val_lt _), ← val_add, karatsuba]
    rfl
theorem toS_f0 (x : E) : (toS x).f0 = hi x := rfl
theorem toS_f1 (x : E) : (toS x).f1 = lo x := rfl
theorem toR_f0 (x : E) : (toR x).f0 = hi x := rfl
theorem toR_f1 (x : E) : (toR x).f1 = lo x := rfl
theorem toR_zero : toR 0 = z51 := by unfold toR; rw [hi_zero, lo_zero]; rfl
theorem toS_el (e : S38) (h : WfS e) : toS (el e.f0 e.f1) = e := by unfold toS; rw [hi_el h.1.1 h.1.2, lo_el h.2.1 h.2.2]
theorem toS_inj {x y : E} (h : toS x = toS y) : x = y := by
  unfold toS at h; injection h with h1 h2; exact hl_inj h1 h2
theorem wf_of {e : S38} (h : (Lit.int .u64 e.f0).wf = true ∧ (Lit.int .u64 e.f1).wf = true) : WfS e := ⟨wf_u64 h.1, wf_u64 h.2⟩
/-- A list that came in is a list of elements. -/
theorem list_of (l : List S38) (h : ∀ e ∈ l, ((Lit.int .u64 e.f0).wf = true) ∧ ((Lit.int .u64 e.f1).wf = true)) : ∃ X : List E, l = X.map toS := by
  refine ⟨l.map fun e => el e.f0 e.f1, ?_⟩
  rw [List.map_map]
  conv => lhs; rw [← List.map_id l]
  apply List.map_congr_left
  intro e he
  exact (toS_el e (wf_of (h e he))).symm
theorem elem_of (e : S38) (h : ((Lit.int .u64 e.f0).wf = true) ∧ ((Lit.int .u64 e.f1).wf = true)) : ∃ x : E, e = toS x := ⟨_, (toS_el e (wf_of h)).symm⟩
theorem rdS (X : List E) (i : Nat) : rd38 (X.map toS) (i : Int) = toS (X.getD i 0) := by
  unfold rd38; rw [Int.toNat_natCast, ← toS_zero, List.getD_eq_getElem?_getD, List.getD_eq_getElem?_getD, List.getElem?_map]
  cases X[i]? <;> rfl
theorem rdR (X : List E) (i : Nat) : rd51 (X.map toR) (i : Int) = toR (X.getD i 0) := by
  unfold rd51; rw [Int.toNat_natCast, ← toR_zero, List.getD_eq_getElem?_getD, List.getD_eq_getElem?_getD, List.getElem?_map]
  cases X[i]? <;> rfl
end Go.Proofs.Ytdpbogooceiaaaa.Sp
namespace Go.Proofs.Ytdpbogooceiaaaa.Sp
open Go.Proofs.Ytdpbogooceiaaaa.V.B Go.RowKit Go.Proofs.Ytdpbogooceiaaaa.B Go.Proofs.Ytdpbogooceiaaaa.V.B.Ar Go.Proofs.Ytdpbogooceiaaaa.V.B.Tw
set_option linter.unusedVariables false
set_option linter.unusedSimpArgs false
/-- Is there such a level? -/
def LvS (L : Int) : Prop := 0 ≤ L ∧ L ≤ 7
instance (L : Int) : Decidable (LvS L) := by unfold LvS; infer_instance
theorem wide_out {L : Int} (h : ¬ LvS L) : Ev (fun k => octet_Wide.f k L) 0 := by
  unfold octet_Wide.f
  by_cases h0 : L < 0
  · exact Ev.pos h0 (Ev.ret _)
  · exact Ev.neg h0 (Ev.pos (by unfold LvS at h; omega) (Ev.ret _))
theorem wide_in {L : Int} (h : LvS L) : ∃ v, v ≠ 0 ∧ Ev (fun k => octet_Wide.f k L) v := by
  obtain ⟨h0, h7⟩ := h
  obtain ⟨l, rfl⟩ := Int.eq_ofNat_of_zero_le h0
  have hstep : ∀ {g : Nat → Option Int} {v : Int}, Ev g v → Ev (fun k => if (l : Int) < 0 then some 0 else if (l : Int) > 7 then some 0 else g k) v := fun hv => Ev.neg (by omega) (Ev.neg (by omega) hv)
  by_cases c : (l : Int) ≤ 3
  · exact ⟨1, by decide, hstep (Ev.pos c (Ev.ret _))⟩
  · have e : wrap64 ((l : Int) - 3) = ((l - 3 : Nat) : Int) := by rw [w64_id (by omega) (by omega)]; omega
    refine ⟨((2 ^ (l - 3) : Nat) : Int), by have := Nat.two_pow_pos (l - 3); omega, hstep (Ev.neg c ?_)⟩
    rw [e]
    exact Ev.pos (Int.natCast_nonneg _) (Ev.ret' (shl_i64 (l - 3) (by omega)))
theorem rdL (l : Nat) (h : l ≤ 7) : rdI ([1, 2, 4, 8, 16, 32, 64, 128] : List Int) (l : Int) = ((2 ^ l : Nat) : Int) := by
  have : ∀ m, m ≤ 7 → rdI ([1, 2, 4, 8, 16, 32, 64, 128] : List Int) ((m : Nat) : Int) = ((2 ^ m : Nat) : Int) := by decide
  exact this l h
theorem and_one_u64 (a n : Nat) (ha : a < 2 ^ 64) (hn : n ≤ 64) : Go.bits .and .u64 (shr .u64 (a : Int) (n : Int)) 1 = if a.testBit n then 1 else 0 := by
  rw [shr_u64 a n hn]
  have hd : a / 2 ^ n < 2 ^ 64 := Nat.lt_of_le_of_lt (Nat.div_le_self _ _) ha
  rw [show (1 : Int) = ((1 : Nat) : Int) from rfl, and_u64 _ 1 hd (by decide), Nat.and_one_is_mod, Nat.testBit_eq_decide_div_mod_eq]
  by_cases c : a / 2 ^ n % 2 = 1
  · rw [c]; simp
  · rw [show a / 2 ^ n % 2 = 0 by omega]; simp
theorem refbit_eq (k : Nat) (x : E) (n : Nat) (hn : n < 128) : steepleref01_bit.f k (toR x) (n : Int) = some (if (val x).testBit n then 1 else 0) := by
  have hx1 := val_lt x.1
  have hx2 := val_lt x.2
  have hQ : Q 6 = 2 ^ 64 := rfl
  rw [hQ] at hx1 hx2
  have hv : val x = 2 ^ 64 * val x.1 + val x.2 := by rw [val_succ, hQ, Nat.mul_comm]
  unfold steepleref01_bit.f
  rw [hv, Nat.testBit_two_pow_mul_add _ hx2]
  unfold toR hi lo
  by_cases c : n < 64
  · have e : IntKind.u64.wrap (n : Int) = (n : Int) := u64_id (by omega) (by omega)
    rw [if_neg (by omega), e, if_pos (Int.natCast_nonneg _), and_one_u64 _ _ hx2 (by omega), if_pos c]
  · have e : IntKind.u64.wrap (wrap64 ((n : Int) - 64)) = ((n - 64 : Nat) : Int) := by
      rw [w64_id (by omega) (by omega), u64_id (by omega) (by omega)]; omega
    rw [if_pos (by omega), e, if_pos (Int.natCast_nonneg _), and_one_u64 _ _ hx1 (by omega), if_neg c]
theorem refbit_ev (x : E) (n : Nat) (hn : n < 128) : Ev (fun k => steepleref01_bit.f k (toR x) (n : Int)) (if (val x).testBit n then 1 else 0) := ⟨0, fun k _ => refbit_eq k x n hn⟩
theorem refOf_l0 (x : E) : ∀ (d n : Nat), n + d = 128 → Ev (fun k => steepleref01_Of.l5 k (n : Int) (hi x) (lo x)) (decide (val x < 2 ^ n)) := by
  intro d
  induction d with
  | zero =>
    intro n hn
    have : n = 128 := by omega
    subst this
    have := val_lt x; rw [Q_seven] at this
    rw [decide_eq_true this]
    exact Ev.step (fun k => by rw [steepleref01_Of.l5]) (Ev.neg (by decide) (Ev.ret _))
  | succ d ih =>
    intro n hn
    have hn' : n < 128 := by omega
    refine Ev.step (fun k => by rw [steepleref01_Of.l5]) ?_
    refine (Ev.pos (by omega) (Ev.bnd (refbit_ev x n hn') ?_))
    simp only [w64_succ hn' (show 128 ≤ 4611686018427387904 by decide)]
    cases c : (val x).testBit n with
    | true =>
      refine Ev.pos (by simp) (Ev.ret' ?_)
      symm; rw [decide_eq_false_iff_not]
      intro h; rw [Nat.testBit_lt_two_pow h] at c; cases c
    | false =>
      refine Ev.neg (by simp) ?_
      have hih := ih (n + 1) (by omega)
      have e : decide (val x < 2 ^ (n + 1)) = decide (val x < 2 ^ n) := by
        rw [decide_eq_decide]
        constructor
        · intro h
          apply Nat.lt_pow_two_of_testBit
          intro i hi
          by_cases e : i = n
          · rw [e]; exact c
          · exact Nat.testBit_lt_two_pow (Nat.lt_of_lt_of_le h (Nat.pow_le_pow_right (by decide) (by omega)))
        · intro h; exact Nat.lt_of_lt_of_le h (Nat.pow_le_pow_right (by decide) (by omega))
      rw [← e]; exact hih
theorem refOf_ev (L : Int) (x : E) : Ev (fun k => steepleref01_Of.f k L (toR x)) (decide (OfS L x)) := by
  unfold steepleref01_Of.f
  by_cases h0 : L < 0
  · refine Ev.pos h0 (Ev.ret' ?_)
    symm; rw [decide_eq_false_iff_not]; rintro ⟨h, _⟩; omega
  refine Ev.neg h0 ?_
  by_cases h7 : L > 7
  · refine Ev.pos h7 (Ev.ret' ?_)
    symm; rw [decide_eq_false_iff_not]; rintro ⟨_, h, _⟩; omega
  refine Ev.neg h7 ?_
  obtain ⟨l, rfl⟩ := Int.eq_ofNat_of_zero_le (show 0 ≤ L by omega)
  refine Ev.pos (Int.natCast_nonneg _) (Ev.pos (by simp; omega) ?_)
  rw [rdL l (by omega)]
  have hp : 2 ^ l ≤ 128 := Nat.pow_le_pow_right (n := 2) (by decide) (show l ≤ 7 by omega)
  have := refOf_l0 x (128 - 2 ^ l) (2 ^ l) (by omega)
  have e : decide (val x < 2 ^ 2 ^ l) = decide (OfS (l : Int) x) := by
    rw [decide_eq_decide]; unfold OfS InL Q; rw [Int.toNat_natCast]
    exact ⟨fun h => ⟨by omega, by omega, h⟩, fun h => h.2.2⟩
  rw [← e]; exact this
/-- All of a level. -/
def AllS (L : Int) (X : List E) : Prop := ∀ x ∈ X, OfS L x
instance (L : Int) (X : List E) : Decidable (AllS L X) := by unfold AllS; infer_instance
theorem allS_drop {L : Int} {X : List E} {i : Nat} (h : i < X.length) : AllS L (X.drop i) ↔ OfS L (X.getD i 0) ∧ AllS L (X.drop (i + 1)) := by
  rw [List.drop_eq_getElem_cons h]
  have : X.getD i 0 = X[i] := by rw [List.getD_eq_getElem?_getD, List.getElem?_eq_getElem h]; rfl
  rw [this]
  exact List.forall_mem_cons
theorem All_l0 (L : Int) (X : List E) (hX : X.length ≤ 1000000) : ∀ (d i : Nat), i + d = X.length → Ev (fun k => steepleref06_All.l2 k L (X.map toR) (i : Int)) (decide (AllS L (X.drop i))) := by
  intro d
  induction d with
  | zero =>
    intro i hi
    refine Ev.step (fun k => by rw [steepleref06_All.l2]) (Ev.neg (by rw [List.length_map]; omega) (Ev.ret' ?_))
    symm; rw [decide_eq_true_eq, List.drop_eq_nil_of_le (by omega)]
    intro x hx; cases hx
  | succ d ih =>
    intro i hi
    have hi' : i < X.length := by omega
    refine Ev.step (fun k => by rw [steepleref06_All.l2]) (Ev.pos (by rw [List.length_map]; omega) (Ev.pos (Int.natCast_nonneg _) (Ev.pos (by rw [List.length_map]; omega) ?_)))
    simp only [rdR, toR_f0, toR_f1, w64_succ hi' (show X.length ≤ 4611686018427387904 by omega)]
    refine Ev.bnd (refOf_ev L _) ?_
    have hd := allS_drop (L := L) hi'
    by_cases c : OfS L (X.getD i 0)
    · refine Ev.neg (by simpa using c) ((ih (i + 1) (by omega)).eqn ?_)
      rw [decide_eq_decide, hd]; exact ⟨fun h => ⟨c, h⟩, fun h => h.2⟩
    · refine Ev.pos (by simpa using c) (Ev.ret' ?_)
      symm; rw [decide_eq_false_iff_not, hd]; exact fun h => c h.1
theorem All_ev (L : Int) (X : List E) (hX : X.length ≤ 1000000) : Ev (fun k => steepleref06_All.f k L (X.map toR)) (decide (AllS L X)) := All_l0 L X hX X.length 0 (by omega)
theorem map_take_succ {α β : Type} (f : α → β) (X : List α) (d : α) (i : Nat) (h : i < X.length) : (X.take (i + 1)).map f = (X.take i).map f ++ [f (X.getD i d)] := by
  rw [List.take_succ_eq_append_getElem h, List.map_append]
  have : X.getD i d = X[i] := by rw [List.getD_eq_getElem?_getD, List.getElem?_eq_getElem h]; rfl
  rw [this]; rfl
theorem Ref_l0 (X : List E) (hX : X.length ≤ 1000000) : ∀ (d i : Nat), i + d = X.length → Ev (fun k => steeplelaw01_Ref.l3 k (X.map toS) (i : Int) ((X.take i).map toR)) (X.map toR) := by
  intro d
  induction d with
  | zero =>
    intro i hi
    refine Ev.step (fun k => by rw [steeplelaw01_Ref.l3]) (Ev.neg (by rw [List.length_map]; omega) (Ev.ret' ?_))
    rw [List.take_of_length_le (by omega)]
  | succ d ih =>
    intro i hi
    have hi' : i < X.length := by omega
    refine Ev.step (fun k => by rw [steeplelaw01_Ref.l3]) (Ev.pos (by rw [List.length_map]; omega) (Ev.pos (Int.natCast_nonneg _) (Ev.pos (by rw [List.length_map]; omega) (Ev.pos (by rw [List.length_map, List.length_take, List.length_singleton]; omega) ?_))))
    simp only [rdS, toS_f0, toS_f1, w64_succ hi' (show X.length ≤ 4611686018427387904 by omega)]
    have hih := ih (i + 1) (by omega)
    rw [map_take_succ toR X 0 i hi'] at hih
    exact hih
theorem Ref_ev (X : List E) (hX : X.length ≤ 1000000) : Ev (fun k => steeplelaw01_Ref.f k (X.map toS)) (X.map toR) := Ref_l0 X hX X.length 0 (by omega)
theorem Same_l0 (X Y : List E) (hl : X.length = Y.length) (hX : X.length ≤ 1000000) : ∀ (d i : Nat), i + d = X.length → (∀ j, j < i → X.getD j 0 = Y.getD j 0) → Ev (fun k => steeplelaw01_Same.l4 k (X.map toS) (Y.map toR) (i : Int)) (decide (X = Y)) := by
  intro d
  induction d with
  | zero =>
    intro i hi h
    refine Ev.step (fun k => by rw [steeplelaw01_Same.l4]) (Ev.neg (by rw [List.length_map]; omega) (Ev.ret' ?_))
    symm; rw [decide_eq_true_eq]
    apply List.ext_getElem hl
    intro j h1 h2
    have := h j (by omega)
    simpa [List.getD_eq_getElem?_getD, h1, h2] using this
  | succ d ih =>
    intro i hid h
    have hi' : i < X.length := by omega
    refine Ev.step (fun k => by rw [steeplelaw01_Same.l4]) (Ev.pos (by rw [List.length_map]; omega) (Ev.pos (Int.natCast_nonneg _) (Ev.pos (by rw [List.length_map]; omega) (Ev.pos (Int.natCast_nonneg _) (Ev.pos (by rw [List.length_map]; omega) ?_)))))
    simp only [rdS, rdR, toS_f0, toS_f1, toR_f0, toR_f1, w64_succ hi' (show X.length ≤ 4611686018427387904 by omega)]
    by_cases c : X.getD i 0 = Y.getD i 0
    · refine Ev.pos (by rw [c]; exact ⟨rfl, rfl⟩) (ih (i + 1) (by omega) (fun j hj => ?_))
      by_cases e : j = i
      · rw [e]; exact c
      · exact h j (by omega)
    · refine Ev.neg (fun h => c (hl_inj h.1 h.2)) (Ev.ret' ?_)
      symm; rw [decide_eq_false_iff_not]
      rintro rfl; exact c rfl
theorem Same_ev (X Y : List E) (hX : X.length ≤ 1000000) : Ev (fun k => steeplelaw01_Same.f k (X.map toS) (Y.map toR)) (decide (X = Y)) := by
  unfold steeplelaw01_Same.f
  by_cases h : X.length = Y.length
  · exact Ev.pos (by rw [List.length_map, List.length_map]; omega) (Same_l0 X Y h hX X.length 0 (by omega) (fun j hj => by omega))
  · refine Ev.neg (by rw [List.length_map, List.length_map]; omega) (Ev.ret' ?_)
    symm; rw [decide_eq_false_iff_not]
    rintro rfl; exact h rfl
/-- The same element? as the program asks. -/
theorem eq_pair (x y : E) : (hi x == hi y && (lo x == lo y)) = decide (x = y) := by
  rw [Bool.eq_iff_iff, Bool.and_eq_true, beq_iff_eq, beq_iff_eq, decide_eq_true_eq]
  exact ⟨fun h => hl_inj h.1 h.2, fun h => by rw [h]; exact ⟨rfl, rfl⟩⟩
theorem eq_none (x : E) : (hi x == 0 && (lo x == 0)) = decide (x = 0) := by
  rw [← eq_pair, hi_zero, lo_zero]
end Go.Proofs.Ytdpbogooceiaaaa.Sp
namespace Go.Proofs.Ytdpbogooceiaaaa.Sp
open Go.Proofs.Ytdpbogooceiaaaa.V.B Go.RowKit Go.Proofs.Ytdpbogooceiaaaa.B Go.Proofs.Ytdpbogooceiaaaa.V.B.Ar Go.Proofs.Ytdpbogooceiaaaa.V.B.Tw
set_option linter.unusedVariables false
set_option linter.unusedSimpArgs false
theorem mask_ev (j : Nat) (hj : j < 6) : Ev (fun k => steepleref02_mask.f k (j : Int)) ((M j 6 : Nat) : Int) := by
  have : ∀ j : Nat, j < 6 → steepleref02_mask.f 0 (j : Int) = some ((M j 6 : Nat) : Int) := by decide +kernel
  exact ⟨0, fun k _ => this j hj⟩
theorem tw_lt {j v : Nat} (hj : j ≤ 6) (hv : v < Q 6) : tw 6 j v < Q 6 := by rw [tw_eq hj hv]; exact val_lt _
theorem shlw (a w : Nat) (hw : w ≤ 64) : shl .u64 (a : Int) (w : Int) = (((a * 2 ^ w) % 2 ^ 64 : Nat) : Int) := by
  unfold shl
  have h64 : IntKind.u64.bits = 64 := rfl
  rw [h64, Int.toNat_natCast, Nat.min_eq_left hw]
  have hc : ((a : Int) * 2 ^ w) = ((a * 2 ^ w : Nat) : Int) := by simp
  rw [hc]
  simp [IntKind.wrap, IntKind.bits, IntKind.signed]
theorem timesWord_ev : ∀ (j : Nat), j ≤ 6 → ∀ (v : Nat), v < Q 6 → Ev (fun k => steepleref02_timesWord.f k ((j : Int) - 1) (v : Int)) ((tw 6 j v : Nat) : Int) := by
  intro j
  induction j with
  | zero =>
    intro _ v hv
    have h0 : (((0 : Nat) : Int) - 1) < 0 := by decide
    refine Ev.step (fun k => by rw [steepleref02_timesWord.f]) (Ev.pos h0 ?_)
    exact Ev.ret' rfl
  | succ j ih =>
    intro hj v hv
    have h32 := two_pow_le_32 (n := j) (by omega)
    have hw : IntKind.u64.wrap (((j + 1 : Nat) : Int) - 1) = (j : Int) := by rw [u64_id (by omega) (by omega)]; omega
    have hw2 : wrap64 (((j + 1 : Nat) : Int) - 1 - 1) = (j : Int) - 1 := by rw [w64_id (by omega) (by omega)]; omega
    have hj1 : (((j + 1 : Nat) : Int) - 1) = (j : Int) := by omega
    have hQ6 : Q 6 = 2 ^ 64 := rfl
    have hM : M j 6 < 2 ^ 64 := by rw [← hQ6]; exact M_lt_Q (by omega)
    have hd : v / 2 ^ 2 ^ j < 2 ^ 64 := Nat.lt_of_le_of_lt (Nat.div_le_self _ _) hv
    have hhi : (v / 2 ^ 2 ^ j) &&& M j 6 < 2 ^ 64 := Nat.and_lt_two_pow _ hM
    have hlo : v &&& M j 6 < 2 ^ 64 := Nat.and_lt_two_pow _ hM
    have hrec := ih (by omega) _ hhi
    have htw : tw 6 j ((v / 2 ^ 2 ^ j) &&& M j 6) < 2 ^ 64 := tw_lt (by omega) hhi
    rw [hj1] at hw hw2 ⊢
    refine Ev.step (fun k => by rw [steepleref02_timesWord.f]) (Ev.neg (by omega) ?_)
    simp only [hw]
    refine Ev.pos (Int.natCast_nonneg _) (Ev.pos (by rw [shl_u64 j (by omega)]; exact Int.natCast_nonneg _) (Ev.bnd (mask_ev j (by omega)) (Ev.bnd (mask_ev j (by omega)) ?_)))
    simp only [shl_u64 j (by omega), shr_u64 v (2 ^ j) (by omega), and_u64 _ _ hd hM, and_u64 _ _ hv hM, hw2]
    refine Ev.bnd hrec (Ev.pos (Int.natCast_nonneg _) (Ev.ret' ?_))
    rw [xor_u64 _ _ hlo htw, shlw _ _ (by omega), or_u64 _ _ (Nat.mod_lt _ (by decide)) hhi]
    rfl
/-- The generator of a level, as an element of the greatest one. -/
def gE (m : Nat) : E := of 7 (val (gen m))
theorem tw_hi {j : Nat} (hj : j ≤ 6) (x : T 6) : tw 6 j (val x) = val (of 6 (val (gen j)) * x) := by rw [tw_eq hj (val_lt x), of_val]
theorem Times_ev (j : Nat) (hj : j ≤ 6) (x : E) : Ev (fun k => steepleref02_Times.f k (j : Int) (toR x)) (toR (gE (j + 1) * x)) := by
  unfold steepleref02_Times.f
  by_cases c : j < 6
  · refine Ev.pos (by omega) ?_
    have h1 := timesWord_ev (j + 1) (by omega) (val x.1) (val_lt x.1)
    have h2 := timesWord_ev (j + 1) (by omega) (val x.2) (val_lt x.2)
    rw [show (((j + 1 : Nat) : Int) - 1) = (j : Int) by omega] at h1 h2
    refine Ev.bnd h1 (Ev.bnd h2 (Ev.ret' ?_))
    have e : gE (j + 1) = up (of 6 (val (gen (j + 1)))) := of_low (Nat.lt_of_lt_of_le (gen_lt (j + 1)) (Q_mono (by omega)))
    rw [e, up_mul_any, tw_hi (by omega), tw_hi (by omega)]; rfl
  · have : j = 6 := by omega
    subst this
    refine Ev.neg (by decide) ?_
    have h1 := timesWord_ev 6 (by omega) (val x.1) (val_lt x.1)
    refine Ev.bnd h1 (Ev.ret' ?_)
    have e : gE 7 = gen 7 := of_val _
    have ev : of 6 (val (gen 6)) = gen 6 := of_val _
    rw [tw_hi (by omega), e, ev]
    unfold toR hi lo
    rw [xor_u64 _ _ (val_lt _) (val_lt _), ← val_add]
    have m1 : (gen 7 * x).1 = x.2 + gen 6 * x.1 := by rw [mul_fst, gen_fst, gen_snd, one_mul, zero_mul, one_mul, add_zero]
    have m2 : (gen 7 * x).2 = x.1 := by rw [mul_snd, gen_fst, gen_snd, one_mul, zero_mul, zero_add]
    rw [m1, m2]
/-- The element with one bit. -/
def bitE (n : Nat) : E := of 7 (2 ^ n)
theorem bitE_hl {n : Nat} (hn : n < 128) : hi (bitE n) = (if n < 64 then 0 else ((2 ^ (n - 64) : Nat) : Int)) ∧ lo (bitE n) = (if n < 64 then ((2 ^ n : Nat) : Int) else 0) := by
  unfold bitE hi lo
  rw [of_succ, mk_fst, mk_snd]
  have hQ : Q 6 = 2 ^ 64 := rfl
  by_cases c : n < 64
  · have h1 : 2 ^ n < Q 6 := by rw [hQ]; exact Nat.pow_lt_pow_right (by decide) c
    rw [if_pos c, if_pos c, Nat.div_eq_of_lt h1, Nat.mod_eq_of_lt h1, val_of _ _ h1, of_zero, val_zero]; exact ⟨rfl, rfl⟩
  · have e : 2 ^ n = 2 ^ (n - 64) * Q 6 + 0 := by rw [hQ, ← Nat.pow_add, Nat.add_zero]; congr 1; omega
    have h2 : 2 ^ (n - 64) < Q 6 := by rw [hQ]; exact Nat.pow_lt_pow_right (by decide) (by omega)
    rw [if_neg c, if_neg c, e, join_div (Q_pos 6), join_mod (Q_pos 6), val_of _ _ h2, of_zero, val_zero]; exact ⟨rfl, rfl⟩
theorem refBit_ev (n : Nat) (hn : n < 128) : Ev (fun k => steepleref02_Bit.f k (n : Int)) (toR (bitE n)) := by
  obtain ⟨h1, h2⟩ := bitE_hl hn
  unfold steepleref02_Bit.f toR
  rw [h1, h2]
  refine Ev.neg (by omega) (Ev.neg (by omega) ?_)
  by_cases c : n < 64
  · rw [if_pos c, if_pos c]
    refine Ev.neg (by omega) ?_
    rw [u64_id (by omega) (by omega)]
    exact Ev.pos (Int.natCast_nonneg _) (Ev.ret' (by rw [shl_u64 n (by omega)]))
  · rw [if_neg c, if_neg c]
    refine Ev.pos (by omega) ?_
    have e : IntKind.u64.wrap (wrap64 ((n : Int) - 64)) = ((n - 64 : Nat) : Int) := by
      rw [w64_id (by omega) (by omega), u64_id (by omega) (by omega)]; omega
    rw [e]
    exact Ev.pos (Int.natCast_nonneg _) (Ev.ret' (by rw [shl_u64 (n - 64) (by omega)]))
theorem and_bit_ne (x n : Nat) : (x &&& 2 ^ n ≠ 0) ↔ x.testBit n = true := by
  constructor
  · intro h
    cases hb : x.testBit n with
    | true => rfl
    | false =>
      exfalso; apply h
      apply Nat.eq_of_testBit_eq
      intro i
      rw [Nat.testBit_and, Nat.zero_testBit]
      by_cases e : i = n
      · subst e; rw [hb, Bool.false_and]
      · rw [Nat.testBit_two_pow_of_ne (by omega), Bool.and_false]
  · intro h e
    have := congrArg (fun z => z.testBit n) e
    simp only [Nat.testBit_and, Nat.testBit_two_pow_self, Bool.and_true, Nat.zero_testBit] at this
    rw [h] at this; cases this
theorem hasBits (x : E) (n : Nat) (hn : n < 128) : ((Go.bits .or .u64 (Go.bits .and .u64 (lo x) (lo (bitE n))) (Go.bits .and .u64 (hi x) (hi (bitE n)))) != 0) = (val x).testBit n := by
  obtain ⟨h1, h2⟩ := bitE_hl hn
  have hx1 := val_lt x.1
  have hx2 := val_lt x.2
  have hQ : Q 6 = 2 ^ 64 := rfl
  rw [hQ] at hx1 hx2
  have hv : val x = 2 ^ 64 * val x.1 + val x.2 := by rw [val_succ, hQ, Nat.mul_comm]
  rw [h1, h2, hv]
  unfold hi lo
  by_cases c : n < 64
  · rw [if_pos c, if_pos c]
    have hp : 2 ^ n < 2 ^ 64 := Nat.pow_lt_pow_right (by decide) c
    have z : (0 : Int) = ((0 : Nat) : Int) := rfl
    rw [z, and_u64 _ _ hx2 hp, and_u64 _ _ hx1 (by decide), or_u64 _ _ (Nat.and_lt_two_pow _ hp) (Nat.and_lt_two_pow _ (by decide)), Nat.and_zero, Nat.or_zero]
    rw [Nat.testBit_two_pow_mul_add _ hx2, if_pos c, Bool.eq_iff_iff, ← and_bit_ne, bne_iff_ne]
    exact ⟨fun h e => h (by rw [e]), fun h e => h (by exact_mod_cast e)⟩
  · rw [if_neg c, if_neg c]
    have hp : 2 ^ (n - 64) < 2 ^ 64 := Nat.pow_lt_pow_right (by decide) (by omega)
    have z : (0 : Int) = ((0 : Nat) : Int) := rfl
    rw [z, and_u64 _ _ hx1 hp, and_u64 _ _ hx2 (by decide), or_u64 _ _ (Nat.and_lt_two_pow _ (by decide)) (Nat.and_lt_two_pow _ hp), Nat.and_zero, Nat.zero_or]
    rw [Nat.testBit_two_pow_mul_add _ hx2, if_neg c, Bool.eq_iff_iff, ← and_bit_ne, bne_iff_ne]
    exact ⟨fun h e => h (by rw [e]), fun h e => h (by exact_mod_cast e)⟩
theorem Has_ev (x : E) (n : Nat) (hn : n < 128) : Ev (fun k => steepleref02_Has.f k (toR x) (n : Int)) ((val x).testBit n) := by
  unfold steepleref02_Has.f
  refine Ev.bnd (refBit_ev n hn) (Ev.ret' (hasBits x n hn))
theorem and_one (n j : Nat) (hn : n < 2 ^ 63) (hj : j ≤ 64) : Go.bits .and .i64 (shr .i64 (n : Int) (j : Int)) 1 = (((n / 2 ^ j) % 2 : Nat) : Int) := by
  rw [shr_i64 n j hj]
  have := and_i64_mask (n / 2 ^ j) 1 (Nat.lt_of_le_of_lt (Nat.div_le_self _ _) hn) (by decide)
  simpa using this
theorem prod_l1 (a b acc : E) (n : Nat) (hn : n < 128) {R : S51} (hk : Ev (fun k => steepleref02_Product.l3 k ((n + 1 : Nat) : Int) (hi a) (lo a) (hi b) (lo b) 0 0 (hi (acc + gp 7 7 n * a)) (lo (acc + gp 7 7 n * a))) R) :
    ∀ (d j : Nat), j + d = 7 → Ev (fun k => steepleref02_Product.l8 k (n : Int) (j : Int) (hi a) (lo a) (hi b) (lo b) 0 0 (hi acc) (lo acc) (hi (gp 7 j n * a)) (lo (gp 7 j n * a))) R := by
  intro d
  induction d with
  | zero =>
    intro j hj
    have : j = 7 := by omega
    subst this
    refine Ev.step (fun k => by rw [steepleref02_Product.l8]) ?_
    refine (Ev.neg (by decide) (Ev.bnd (refAdd_ev acc _) ?_))
    simp only [w64_succ hn (by decide)]
    exact hk
  | succ d ih =>
    intro j hj
    have hu : IntKind.u64.wrap (j : Int) = (j : Int) := u64_id (by omega) (by omega)
    have hih := ih (j + 1) (by omega)
    refine Ev.step (fun k => by rw [steepleref02_Product.l8]) ?_
    refine (Ev.pos (by omega) ?_)
    simp only [hu, and_one n j (Nat.lt_trans hn (by decide)) (by omega), w64_succ (show j < 7 by omega) (by decide)]
    refine Ev.pos (Int.natCast_nonneg _) ?_
    have hgp : gp 7 (j + 1) n = (if n.testBit j then of 7 (val (gen (j + 1))) else 1) * gp 7 j n := rfl
    have htb : n.testBit j = decide ((n / 2 ^ j) % 2 = 1) := by rw [Nat.testBit_eq_decide_div_mod_eq]
    by_cases c : (n / 2 ^ j) % 2 = 1
    · refine Ev.pos (by omega) (Ev.bnd (Times_ev j (by omega) _) ?_)
      rw [hgp, htb, decide_eq_true c, if_pos rfl, mul_assoc] at hih
      exact hih
    · refine Ev.neg (by omega) ?_
      rw [hgp, htb, decide_eq_false c, if_neg (by decide), one_mul] at hih
      exact hih
theorem prod_l0 (a b : E) : ∀ (d n : Nat), n + d = 128 → Ev (fun k => steepleref02_Product.l3 k (n : Int) (hi a) (lo a) (hi b) (lo b) 0 0 (hi (of 7 (val b % 2 ^ n) * a)) (lo (of 7 (val b % 2 ^ n) * a))) (toR (b * a)) := by
  intro d
  induction d with
  | zero =>
    intro n hn
    have : n = 128 := by omega
    subst this
    have hb : val b % 2 ^ 128 = val b := Nat.mod_eq_of_lt (by have := val_lt b; rw [Q_seven] at this; exact this)
    rw [hb, of_val]
    refine Ev.step (fun k => by rw [steepleref02_Product.l3]) ?_
    exact (Ev.neg (by decide) (Ev.ret _))
  | succ d ih =>
    intro n hn
    have hn' : n < 128 := by omega
    have hih := ih (n + 1) (by omega)
    rw [bits_sum (val b) n (val_lt b) (by simpa using hn')] at hih
    refine Ev.step (fun k => by rw [steepleref02_Product.l3]) ?_
    refine (Ev.pos (by omega) (Ev.bnd (Has_ev b n hn') ?_))
    cases c : (val b).testBit n with
    | true =>
      refine Ev.neg (by decide) ?_
      rw [c, if_pos rfl, add_mul, ← gp_bit 7 n (by simpa using hn')] at hih
      have := prod_l1 a b _ n hn' hih 7 0 (by omega)
      have e0 : gp 7 0 n * a = a := one_mul a
      rw [e0] at this
      exact this
    | false =>
      refine Ev.pos rfl ?_
      rw [c, if_neg (by decide), add_zero] at hih
      simp only [w64_succ hn' (by decide)]
      exact hih
theorem Product_ev (x y : E) : Ev (fun k => steepleref02_Product.f k (toR x) (toR y)) (toR (x * y)) := by
  unfold steepleref02_Product.f
  have := prod_l0 x y 128 0 (by decide)
  rw [Nat.pow_zero, Nat.mod_one, of_zero, zero_mul, hi_zero, lo_zero, mul_comm y x] at this
  exact this
end Go.Proofs.Ytdpbogooceiaaaa.Sp
namespace Go.Proofs.Ytdpbogooceiaaaa.Sp
open Go.Proofs.Ytdpbogooceiaaaa.V.B Go.RowKit Go.Proofs.Ytdpbogooceiaaaa.B Go.Proofs.Ytdpbogooceiaaaa.V.B.Ar Go.Proofs.Ytdpbogooceiaaaa.V.B.Tw
set_option linter.unusedVariables false
set_option linter.unusedSimpArgs false
/-- Sums. -/
def sumN (f : Nat → E) : Nat → E
  | 0 => 0
  | n + 1 => sumN f n + f n
theorem sumN_congr {f g : Nat → E} : ∀ n, (∀ i, i < n → f i = g i) → sumN f n = sumN g n
  | 0, _ => rfl
  | n + 1, h => by rw [sumN, sumN, sumN_congr n (fun i hi => h i (by omega)), h n (by omega)]
theorem sumN_add (f g : Nat → E) : ∀ n, sumN (fun i => f i + g i) n = sumN f n + sumN g n
  | 0 => (add_zero _).symm
  | n + 1 => by
    rw [sumN, sumN, sumN, sumN_add f g n]
    simp only [add_assoc, add_left_comm]
theorem sumN_mul (c : E) (f : Nat → E) : ∀ n, sumN (fun i => c * f i) n = c * sumN f n
  | 0 => (mul_zero _).symm
  | n + 1 => by rw [sumN, sumN, sumN_mul c f n, mul_add]
theorem sumN_zero : ∀ n, sumN (fun _ => (0 : E)) n = 0
  | 0 => rfl
  | n + 1 => by rw [sumN, sumN_zero n, add_zero]
theorem sumN_double (f : Nat → E) : ∀ n, sumN f (2 * n) = sumN (fun i => f (2 * i) + f (2 * i + 1)) n
  | 0 => rfl
  | n + 1 => by
    rw [show 2 * (n + 1) = 2 * n + 1 + 1 by omega, sumN, sumN, sumN, sumN_double f n, add_assoc]
theorem sumN_split (f : Nat → E) (m : Nat) : ∀ n, sumN f (m + n) = sumN f m + sumN (fun i => f (m + i)) n
  | 0 => (add_zero _).symm
  | n + 1 => by rw [← Nat.add_assoc, sumN, sumN, sumN_split f m n, add_assoc]
/-- A corner's weight at a point. -/
def weight : List E → Nat → E
  | [], _ => 1
  | p :: ps, i => (if i % 2 = 1 then p else 1 + p) * weight ps (i / 2)
/-- A table's value at a point. -/
def value (X P : List E) : E := sumN (fun i => X.getD i 0 * weight P i) X.length
/-- A table bound in its first variable. -/
def first (r : E) (X : List E) : List E := (List.range (X.length / 2)).map fun i => X.getD (2 * i) 0 + r * (X.getD (2 * i) 0 + X.getD (2 * i + 1) 0)
def firsts : List E → List E → List E
  | [], X => X
  | r :: rs, X => firsts rs (first r X)
theorem first_length (r : E) (X : List E) : (first r X).length = X.length / 2 := by simp [first]
theorem first_getD (r : E) (X : List E) (i : Nat) (h : i < X.length / 2) : (first r X).getD i 0 = X.getD (2 * i) 0 + r * (X.getD (2 * i) 0 + X.getD (2 * i + 1) 0) := by
  rw [List.getD_eq_getElem?_getD]; simp [first, h]
theorem between_eq (a b r : E) : a + r * (a + b) = (1 + r) * a + r * b := by
  rw [add_mul, one_mul, mul_add, add_assoc]
theorem value_first (X : List E) (r : E) (P : List E) (h : X.length = 2 * (X.length / 2)) : value X (r :: P) = value (first r X) P := by
  unfold value
  rw [first_length]
  conv => lhs; rw [h]
  rw [sumN_double]
  apply sumN_congr
  intro i hi
  rw [first_getD r X i hi, weight, weight, if_neg (by omega), if_pos (by omega), show 2 * i / 2 = i by omega, show (2 * i + 1) / 2 = i by omega, between_eq]
  rw [← mul_assoc, ← mul_assoc, mul_comm (X.getD (2 * i) 0), mul_comm (X.getD (2 * i + 1) 0), ← add_mul]
theorem pow_len {X : List E} {k : Nat} (h : X.length = 2 ^ (k + 1)) : X.length = 2 * (X.length / 2) := by rw [h, Nat.pow_succ]; omega
theorem firsts_length : ∀ (R X : List E) (k : Nat), X.length = 2 ^ k → R.length ≤ k → (firsts R X).length = 2 ^ (k - R.length)
  | [], X, k, h, _ => by rw [firsts, h]; rfl
  | r :: rs, X, k, h, hk => by
    rw [List.length_cons] at hk
    obtain ⟨k', rfl⟩ : ∃ k', k = k' + 1 := ⟨k - 1, by omega⟩
    rw [firsts, firsts_length rs (first r X) k' (by rw [first_length, h, Nat.pow_succ]; omega) (by omega), List.length_cons]
    congr 1; omega
theorem value_firsts : ∀ (R X P : List E) (k : Nat), X.length = 2 ^ k → R.length ≤ k → value X (R ++ P) = value (firsts R X) P
  | [], X, P, k, _, _ => rfl
  | r :: rs, X, P, k, h, hk => by
    rw [List.length_cons] at hk
    obtain ⟨k', rfl⟩ : ∃ k', k = k' + 1 := ⟨k - 1, by omega⟩
    rw [List.cons_append, value_first X r (rs ++ P) (pow_len h), firsts]
    exact value_firsts rs (first r X) P k' (by rw [first_length, h, Nat.pow_succ]; omega) (by omega)
theorem value_nil {X : List E} (h : X.length = 1) : value X [] = X.getD 0 0 := by
  unfold value; rw [h, sumN, sumN, zero_add, weight, mul_one]
theorem value_eq (X P : List E) (h : X.length = 2 ^ P.length) : value X P = (firsts P X).getD 0 0 := by
  have := value_firsts P X [] P.length h (Nat.le_refl _)
  rw [List.append_nil] at this
  rw [this, value_nil (by rw [firsts_length P X P.length h (Nat.le_refl _), Nat.sub_self, Nat.pow_zero])]

/-- k of 2^k, as both tell it. -/
theorem map_set {α β : Type} (f : α → β) (X : List α) (i : Nat) (x : α) : (X.map f).set i (f x) = (X.set i x).map f := by rw [List.map_set]
theorem toS_mk (x : E) : (⟨hi x, lo x⟩ : S38) = toS x := rfl
theorem toR_mk (x : E) : (⟨hi x, lo x⟩ : S51) = toR x := rfl
theorem getD_set_self {X : List E} {i : Nat} (h : i < X.length) (x : E) : (X.set i x).getD i 0 = x := by
  rw [List.getD_eq_getElem?_getD, List.getElem?_set_self h]; rfl
theorem getD_set_ne {X : List E} {i j : Nat} (h : i ≠ j) (x : E) : (X.set i x).getD j 0 = X.getD j 0 := by
  rw [List.getD_eq_getElem?_getD, List.getD_eq_getElem?_getD, List.getElem?_set_ne h]
theorem ext_getD {X Y : List E} (hl : X.length = Y.length) (h : ∀ i, i < X.length → X.getD i 0 = Y.getD i 0) : X = Y := by
  apply List.ext_getElem hl
  intro j h1 h2
  have := h j h1
  simpa [List.getD_eq_getElem?_getD, h1, h2] using this
theorem getD_take {X : List E} {i m : Nat} (h : i < m) : (X.take m).getD i 0 = X.getD i 0 := by
  rw [List.getD_eq_getElem?_getD, List.getD_eq_getElem?_getD, List.getElem?_take_of_lt h]
theorem allS_getD {l : Nat} {X : List E} (h : AllS (l : Int) X) (i : Nat) : InL l (X.getD i 0) := by
  rw [List.getD_eq_getElem?_getD]
  by_cases c : i < X.length
  · rw [List.getElem?_eq_getElem c]
    have := (h _ (List.getElem_mem c)).2.2
    rw [Int.toNat_natCast] at this; exact this
  · rw [List.getElem?_eq_none (by omega)]; exact inL_zero l
theorem allS_first {l : Nat} (hl : l ≤ 7) {X : List E} {r : E} (hX : AllS (l : Int) X) (hr : InL l r) : AllS (l : Int) (first r X) := by
  intro x hx
  unfold first at hx
  rw [List.mem_map] at hx
  obtain ⟨i, _, rfl⟩ := hx
  refine ⟨by omega, by omega, ?_⟩
  rw [Int.toNat_natCast]
  exact inL_add (allS_getD hX _) (inL_mul hl hr (inL_add (allS_getD hX _) (allS_getD hX _)))
theorem half_len (n : Nat) (h : n ≤ 1000000) : wrap64 ((n : Int) / 2) = ((n / 2 : Nat) : Int) := by rw [w64_id (by omega) (by omega)]; omega
theorem w64_dbl {i : Nat} (h : i ≤ 1000000) : wrap64 (2 * (i : Int)) = ((2 * i : Nat) : Int) := by rw [w64_id (by omega) (by omega)]; omega
end Go.Proofs.Ytdpbogooceiaaaa.Sp
namespace Go.Proofs.Ytdpbogooceiaaaa.Sp
open Go.Proofs.Ytdpbogooceiaaaa.V.B Go.RowKit Go.Proofs.Ytdpbogooceiaaaa.B Go.Proofs.Ytdpbogooceiaaaa.V.B.Ar Go.Proofs.Ytdpbogooceiaaaa.V.B.Tw
set_option linter.unusedVariables false
set_option linter.unusedSimpArgs false
def logFrom (n : Int) (k : Nat) : Nat → Int
  | 0 => -1
  | d + 1 => if n = ((2 ^ k : Nat) : Int) then (k : Int) else logFrom n (k + 1) d
def logI (n : Int) : Int := logFrom n 0 17
theorem logFrom_pow : ∀ (d k m : Nat), k ≤ m → m < k + d → logFrom ((2 ^ m : Nat) : Int) k d = (m : Int)
  | 0, k, m, h1, h2 => by omega
  | d + 1, k, m, h1, h2 => by
    rw [logFrom]
    by_cases c : m = k
    · rw [if_pos (by rw [c]), c]
    · rw [if_neg ?_, logFrom_pow d (k + 1) m (by omega) (by omega)]
      intro e
      have e' : 2 ^ m = 2 ^ k := by omega
      exact c ((Nat.pow_right_inj (by decide)).1 e')
theorem logI_pow {m : Nat} (h : m ≤ 16) : logI ((2 ^ m : Nat) : Int) = (m : Int) := logFrom_pow 17 0 m (by omega) (by omega)
theorem logFrom_inv : ∀ (d k : Nat) (n : Int), logFrom n k d = -1 ∨ ∃ m : Nat, k ≤ m ∧ m < k + d ∧ n = ((2 ^ m : Nat) : Int) ∧ logFrom n k d = (m : Int)
  | 0, k, n => Or.inl rfl
  | d + 1, k, n => by
    rw [logFrom]
    by_cases c : n = ((2 ^ k : Nat) : Int)
    · rw [if_pos c]; exact Or.inr ⟨k, by omega, by omega, c, rfl⟩
    · rw [if_neg c]
      rcases logFrom_inv d (k + 1) n with h | ⟨m, h1, h2, h3, h4⟩
      · exact Or.inl h
      · exact Or.inr ⟨m, by omega, by omega, h3, h4⟩
theorem logI_inv (n : Int) : logI n = -1 ∨ ∃ m : Nat, m ≤ 16 ∧ n = ((2 ^ m : Nat) : Int) ∧ logI n = (m : Int) := by
  rcases logFrom_inv 17 0 n with h | ⟨m, _, h2, h3, h4⟩
  · exact Or.inl h
  · exact Or.inr ⟨m, by omega, h3, h4⟩
end Go.Proofs.Ytdpbogooceiaaaa.Sp
namespace Go.Proofs.Ytdpbogooceiaaaa.Sp
open Go.Proofs.Ytdpbogooceiaaaa.V.B Go.RowKit Go.Proofs.Ytdpbogooceiaaaa.B Go.Proofs.Ytdpbogooceiaaaa.V.B.Ar Go.Proofs.Ytdpbogooceiaaaa.V.B.Tw
set_option linter.unusedVariables false
set_option linter.unusedSimpArgs false
theorem Log_l0 (n : Int) : ∀ (d k : Nat), k + d = 17 → Ev (fun q => cube_Log.l2 q n (k : Int)) (logFrom n k d) := by
  intro d
  induction d with
  | zero =>
    intro k hk
    have h17 : ¬ ((k : Int) < 17) := by omega
    refine Ev.step (fun q => by rw [cube_Log.l2]) (Ev.neg h17 ?_)
    exact Ev.ret' rfl
  | succ d ih =>
    intro k hk
    refine Ev.step (fun q => by rw [cube_Log.l2]) (Ev.pos (by omega) (Ev.pos (Int.natCast_nonneg _) ?_))
    rw [shl_i64 k (by omega), logFrom]
    by_cases c : n = ((2 ^ k : Nat) : Int)
    · rw [if_pos c]; exact Ev.pos c (Ev.ret _)
    · rw [if_neg c]
      refine Ev.neg c ?_
      simp only [w64_succ (show k < 17 by omega) (by decide)]
      exact ih (k + 1) (by omega)
theorem Log_ev (n : Int) : Ev (fun q => cube_Log.f q n) (logI n) := Log_l0 n 17 0 (by omega)
end Go.Proofs.Ytdpbogooceiaaaa.Sp
namespace Go.Proofs.Ytdpbogooceiaaaa.Sp
open Go.Proofs.Ytdpbogooceiaaaa.V.B Go.RowKit Go.Proofs.Ytdpbogooceiaaaa.B Go.Proofs.Ytdpbogooceiaaaa.V.B.Ar Go.Proofs.Ytdpbogooceiaaaa.V.B.Tw
set_option linter.unusedVariables false
set_option linter.unusedSimpArgs false
/-- The number of the first element that is not P, or -1. -/
theorem index_gen {l : Nat → List S38 → Int → Int → Int → Option Int} {p : Nat → S38 → Option Int → Option Bool} {P : E → Prop} [DecidablePred P] {a : Int}
    (hs : ∀ k xs n i, l (k + 1) xs a n i = if i < n then (if 0 ≤ i then (if i < (xs.length : Int) then ((p k (rd38 xs i) (some a)).bind fun r => if r = true then some i else l k xs a n (wrap64 (i + 1))) else none) else none) else some (-1))
    (hp : ∀ x, Ev (fun k => p k (toS x) (some a)) (decide (¬ P x))) (X : List E) (hX : X.length ≤ 4611686018427387904) : ∀ (d i : Nat), i + d = X.length →
    ∃ r : Int, Ev (fun k => l k (X.map toS) a (X.length : Int) (i : Int)) r ∧ (r ≥ 0 ↔ ¬ ∀ x ∈ X.drop i, P x) := by
  intro d
  induction d with
  | zero =>
    intro i hi
    refine ⟨-1, Ev.step (fun k => hs k _ _ _) (Ev.neg (by omega) (Ev.ret _)), ?_⟩
    rw [List.drop_eq_nil_of_le (by omega)]
    exact ⟨fun h => absurd h (by decide), fun h => absurd (fun x hx => by cases hx) h⟩
  | succ d ih =>
    intro i hi
    have hi' : i < X.length := by omega
    obtain ⟨r, h1, h2⟩ := ih (i + 1) (by omega)
    have hd : (∀ x ∈ X.drop i, P x) ↔ P (X.getD i 0) ∧ ∀ x ∈ X.drop (i + 1), P x := by
      rw [List.drop_eq_getElem_cons hi']
      have : X.getD i 0 = X[i] := by rw [List.getD_eq_getElem?_getD, List.getElem?_eq_getElem hi']; rfl
      rw [this]
      exact List.forall_mem_cons
    have go : ∀ {r : Int}, Ev (fun k => (p k (rd38 (X.map toS) (i : Int)) (some a)).bind fun r => if r = true then some (i : Int) else l k (X.map toS) a (X.length : Int) (wrap64 ((i : Int) + 1))) r → Ev (fun k => l k (X.map toS) a (X.length : Int) (i : Int)) r := fun h =>
      Ev.step (fun k => hs k _ _ _) (Ev.pos (by omega) (Ev.pos (Int.natCast_nonneg _) (Ev.pos (by rw [List.length_map]; omega) h)))
    simp only [rdS, w64_succ hi' hX] at go
    by_cases c : P (X.getD i 0)
    · refine ⟨r, go (Ev.bnd (hp _) (Ev.neg (by simpa using c) h1)), h2.trans ?_⟩
      rw [hd]
      exact ⟨fun h g => h g.2, fun h g => h ⟨c, g⟩⟩
    · refine ⟨(i : Int), go (Ev.bnd (hp _) (Ev.pos (by simpa using c) (Ev.ret _))), ?_⟩
      rw [hd]
      exact ⟨fun _ g => c g.1, fun _ => Int.natCast_nonneg _⟩
end Go.Proofs.Ytdpbogooceiaaaa.Sp
namespace Go.Proofs.Ytdpbogooceiaaaa.Sp
open Go.Proofs.Ytdpbogooceiaaaa.V.B Go.RowKit Go.Proofs.Ytdpbogooceiaaaa.B Go.Proofs.Ytdpbogooceiaaaa.V.B.Ar Go.Proofs.Ytdpbogooceiaaaa.V.B.Tw
set_option linter.unusedVariables false
set_option linter.unusedSimpArgs false
theorem not_ge {r : Int} {p : Prop} [Decidable p] (h : r ≥ 0 ↔ ¬ p) : (!decide (r ≥ 0)) = decide p := by
  by_cases c : p
  · rw [decide_eq_true c, decide_eq_false (fun g => (h.1 g) c)]; rfl
  · rw [decide_eq_false c, decide_eq_true (h.2 c)]; rfl
theorem cube_of_ev (L : Int) (X : List E) (hX : X.length ≤ 4611686018427387904) : Ev (fun k => cube_of.f k L (X.map toS)) (decide (AllS L X)) := by
  have hp : ∀ x, Ev (fun k => cube_of_1.f k (toS x) (some L)) (decide (¬ OfS L x)) := fun x => Ev.bnd (of_ev L x) (Ev.ret' (by rw [decide_not]))
  obtain ⟨r, h1, h2⟩ := index_gen (P := OfS L) (l := fun k xs a n i => slices_IndexFunc159_c160.l2 k xs a n i) (p := cube_of_1.f) (fun k xs n i => by rw [slices_IndexFunc159_c160.l2]) hp X hX X.length 0 (by omega)
  unfold cube_of.f slices_ContainsFunc126_c160.f slices_IndexFunc159_c160.f
  rw [List.length_map]
  exact Ev.bnd (Ev.bnd h1 (Ev.ret _)) (Ev.ret' (not_ge h2))
theorem ring_of_ev (L : Int) (X : List E) (hX : X.length ≤ 4611686018427387904) : Ev (fun k => ring_of.f k L (X.map toS)) (decide (AllS L X)) := by
  have hp : ∀ x, Ev (fun k => ring_of_1.f k (toS x) (some L)) (decide (¬ OfS L x)) := fun x => Ev.bnd (of_ev L x) (Ev.ret' (by rw [decide_not]))
  obtain ⟨r, h1, h2⟩ := index_gen (P := OfS L) (l := fun k xs a n i => slices_IndexFunc159_c149.l2 k xs a n i) (p := ring_of_1.f) (fun k xs n i => by rw [slices_IndexFunc159_c149.l2]) hp X hX X.length 0 (by omega)
  unfold ring_of.f slices_ContainsFunc126_c149.f slices_IndexFunc159_c149.f
  rw [List.length_map]
  exact Ev.bnd (Ev.bnd h1 (Ev.ret _)) (Ev.ret' (not_ge h2))
theorem claim_of_ev (L : Int) (X : List E) (hX : X.length ≤ 4611686018427387904) : Ev (fun k => claim_of.f k L (X.map toS)) (decide (AllS L X)) := by
  have hp : ∀ x, Ev (fun k => claim_of_1.f k (toS x) (some L)) (decide (¬ OfS L x)) := fun x => Ev.bnd (of_ev L x) (Ev.ret' (by rw [decide_not]))
  obtain ⟨r, h1, h2⟩ := index_gen (P := OfS L) (l := fun k xs a n i => slices_IndexFunc159_c143.l2 k xs a n i) (p := claim_of_1.f) (fun k xs n i => by rw [slices_IndexFunc159_c143.l2]) hp X hX X.length 0 (by omega)
  unfold claim_of.f slices_ContainsFunc126_c143.f slices_IndexFunc159_c143.f
  rw [List.length_map]
  exact Ev.bnd (Ev.bnd h1 (Ev.ret _)) (Ev.ret' (not_ge h2))
theorem weave_of_ev (L : Int) (X : List E) (hX : X.length ≤ 4611686018427387904) : Ev (fun k => weave_of.f k L (X.map toS)) (decide (AllS L X)) := by
  have hp : ∀ x, Ev (fun k => weave_of_1.f k (toS x) (some L)) (decide (¬ OfS L x)) := fun x => Ev.bnd (of_ev L x) (Ev.ret' (by rw [decide_not]))
  obtain ⟨r, h1, h2⟩ := index_gen (P := OfS L) (l := fun k xs a n i => slices_IndexFunc159_c170.l2 k xs a n i) (p := weave_of_1.f) (fun k xs n i => by rw [slices_IndexFunc159_c170.l2]) hp X hX X.length 0 (by omega)
  unfold weave_of.f slices_ContainsFunc126_c170.f slices_IndexFunc159_c170.f
  rw [List.length_map]
  exact Ev.bnd (Ev.bnd h1 (Ev.ret _)) (Ev.ret' (not_ge h2))
end Go.Proofs.Ytdpbogooceiaaaa.Sp
namespace Go.Proofs.Ytdpbogooceiaaaa.Sp
open Go.Proofs.Ytdpbogooceiaaaa.V.B Go.RowKit Go.Proofs.Ytdpbogooceiaaaa.B Go.Proofs.Ytdpbogooceiaaaa.V.B.Ar Go.Proofs.Ytdpbogooceiaaaa.V.B.Tw
set_option linter.unusedVariables false
set_option linter.unusedSimpArgs false
/-- What hinders binding. -/
def askS (L : Int) (X R : List E) : Int := if LvS L then (if logI (X.length : Int) < 0 ∨ (R.length : Int) > logI (X.length : Int) then 6 else if AllS L X ∧ AllS L R then 0 else 5) else 1
theorem ask_ev (L : Int) (X R : List E) (hX : X.length ≤ 1000000) (hR : R.length ≤ 1000000) : Ev (fun k => cube_ask.f k L (X.map toS) (R.map toS)) (askS L X R) := by
  unfold cube_ask.f
  rw [List.length_map, List.length_map]
  refine Ev.bnd (Log_ev _) ?_
  by_cases hL : LvS L
  rotate_left
  · exact Ev.bnd (wide_out hL) (Ev.pos rfl (Ev.ret' (if_neg hL).symm))
  obtain ⟨v, hv, hw⟩ := wide_in hL
  have h6 : (logI (X.length : Int) < 0 ∨ (R.length : Int) > logI (X.length : Int)) → 6 = askS L X R := fun h => by unfold askS; rw [if_pos hL, if_pos h]
  refine Ev.bnd hw (Ev.neg hv (Ev.both (fun c1 => Ev.ret' (h6 (.inl c1))) fun c1 => Ev.both (fun c2 => Ev.ret' (h6 (.inr c2))) fun c2 => ?_))
  have hno : ¬ (logI (X.length : Int) < 0 ∨ (R.length : Int) > logI (X.length : Int)) := fun h => h.elim c1 c2
  have e : askS L X R = if AllS L X ∧ AllS L R then 0 else 5 := by unfold askS; rw [if_pos hL, if_neg hno]
  rw [e]
  refine Ev.bnd (cube_of_ev L X (by omega)) (Ev.nd (fun c3 => Ev.ret' (if_neg fun h => c3 h.1).symm) fun c3 => Ev.bnd (cube_of_ev L R (by omega)) (Ev.nd (fun c4 => Ev.ret' (if_neg fun h => c4 h.2).symm) fun c4 => Ev.ret' (if_pos ⟨c3, c4⟩).symm))
theorem tdiv_half (n : Nat) (h : n ≤ 1000000) : wrap64 (Int.tdiv (n : Int) 2) = ((n / 2 : Nat) : Int) := by
  have e : Int.tdiv (n : Int) 2 = ((n / 2 : Nat) : Int) := (Int.ofNat_tdiv n 2).symm
  rw [e, w64_id (by omega) (by omega)]
theorem between_ev {l : Nat} (hl : l ≤ 7) {a b r : E} (ha : InL l a) (hb : InL l b) (hr : InL l r) : Ev (fun k => cube_between.f k (l : Int) (toS a) (toS b) (toS r)) (toS (a + r * (a + b))) := by
  unfold cube_between.f
  exact Ev.bnd (Add_ev a b) (Ev.bnd (Mul_ev hl hr (inL_add ha hb)) (Ev.bnd (Add_ev a _) (Ev.ret _)))
theorem First_l1 {l : Nat} (hl : l ≤ 7) (X0 : List E) (hlen : X0.length ≤ 1000000) (hX : AllS (l : Int) X0) (r : E) (hr : InL l r) (RS : List S38) (m t : Int) {res : List S38 × Int}
    (hk : Ev (fun q => cube_First.l6 q (l : Int) RS m (wrap64 (t + 1)) ((first r X0).map toS)) res) :
    ∀ (d i : Nat) (X : List E), i + d = X0.length / 2 → X.length = X0.length → (∀ j, j < i → X.getD j 0 = (first r X0).getD j 0) → (∀ j, i ≤ j → X.getD j 0 = X0.getD j 0) →
    Ev (fun q => cube_First.l10 q (l : Int) ((X0.length / 2 : Nat) : Int) RS m t ((X0.length / 2 : Nat) : Int) (i : Int) (X.map toS) (hi r) (lo r)) res := by
  intro d
  induction d with
  | zero =>
    intro i X hid hXl h1 h2
    refine Ev.step (fun q => by rw [cube_First.l10]) (Ev.neg (by omega) (Ev.pos (Int.natCast_nonneg _) (Ev.pos (by rw [List.length_map]; omega) ?_)))
    rw [Int.toNat_natCast, ← List.map_take]
    have e : X.take (X0.length / 2) = first r X0 := by
      apply ext_getD
      · rw [List.length_take, first_length]; omega
      · intro j hj
        rw [List.length_take] at hj
        rw [getD_take (by omega)]; exact h1 j (by omega)
    rw [e]; exact hk
  | succ d ih =>
    intro i X hid hXl h1 h2
    have hi2 : i < X0.length / 2 := by omega
    refine Ev.step (fun q => by rw [cube_First.l10]) (Ev.pos (by omega) ?_)
    simp only [w64_dbl (show i ≤ 1000000 by omega), w64_succ (show 2 * i < X0.length by omega) (show X0.length ≤ 4611686018427387904 by omega), w64_succ hi2 (show X0.length / 2 ≤ 4611686018427387904 by omega), rdS, toS_f0, toS_f1, List.length_map]
    refine Ev.pos (Int.natCast_nonneg _) (Ev.pos (by omega) (Ev.pos (Int.natCast_nonneg _) (Ev.pos (by omega) ?_)))
    rw [h2 (2 * i) (by omega), h2 (2 * i + 1) (by omega)]
    refine Ev.bnd (between_ev hl (allS_getD hX _) (allS_getD hX _) hr) (Ev.pos (Int.natCast_nonneg _) (Ev.pos (by omega) ?_))
    rw [Int.toNat_natCast, map_set]
    refine ih (i + 1) _ (by omega) (by rw [List.length_set, hXl]) (fun j hj => ?_) (fun j hj => ?_)
    · by_cases e : j = i
      · subst e
        rw [getD_set_self (by omega), first_getD r X0 j hi2]
      · rw [getD_set_ne (by omega)]; exact h1 j (by omega)
    · rw [getD_set_ne (by omega)]; exact h2 j (by omega)
theorem First_l0 {l : Nat} (hl : l ≤ 7) (R : List E) (hR : AllS (l : Int) R) (hRl : R.length ≤ 1000000) : ∀ (d t : Nat) (X : List E), t + d = R.length → X.length ≤ 1000000 → AllS (l : Int) X →
    Ev (fun q => cube_First.l6 q (l : Int) (R.map toS) (R.length : Int) (t : Int) (X.map toS)) ((firsts (R.drop t) X).map toS, 0) := by
  intro d
  induction d with
  | zero =>
    intro t X ht hXl hX
    refine Ev.step (fun q => by rw [cube_First.l6]) (Ev.neg (by omega) (Ev.ret' ?_))
    rw [List.drop_eq_nil_of_le (by omega)]; rfl
  | succ d ih =>
    intro t X ht hXl hX
    have ht' : t < R.length := by omega
    refine Ev.step (fun q => by rw [cube_First.l6]) (Ev.pos (by omega) (Ev.pos (Int.natCast_nonneg _) (Ev.pos (by rw [List.length_map]; omega) ?_)))
    simp only [rdS, toS_f0, toS_f1, List.length_map, tdiv_half X.length hXl]
    have hr := allS_getD hR t
    have hih := ih (t + 1) (first (R.getD t 0) X) (by omega) (by rw [first_length]; omega) (allS_first hl hX hr)
    rw [← w64_succ ht' (show R.length ≤ 4611686018427387904 by omega)] at hih
    have := First_l1 hl X hXl hX (R.getD t 0) hr (R.map toS) (R.length : Int) (t : Int) hih (X.length / 2) 0 X (by omega) rfl (fun j hj => by omega) (fun j _ => rfl)
    have e : firsts (R.drop t) X = firsts (R.drop (t + 1)) (first (R.getD t 0) X) := by
      rw [List.drop_eq_getElem_cons ht', firsts]
      congr 2
      rw [List.getD_eq_getElem?_getD, List.getElem?_eq_getElem ht']; rfl
    rw [e]; exact this
theorem clone_ev (X : List E) (hX : X.length ≤ 1000000) : Ev (fun q => slices_Clone85.f q (X.map toS)) (X.map toS) := ⟨0, fun q _ => by
  unfold slices_Clone85.f
  rw [if_pos (by rw [List.length_nil, List.length_map]; omega), List.nil_append]⟩
theorem First_ok {l : Nat} (hl : l ≤ 7) (X R : List E) (hXl : X.length ≤ 1000000) (hRl : R.length ≤ 1000000) (h : askS (l : Int) X R = 0) : Ev (fun q => cube_First.f q (l : Int) (X.map toS) (R.map toS)) ((firsts R X).map toS, 0) := by
  unfold cube_First.f
  have hh := h
  unfold askS at hh
  split at hh
  · split at hh
    · omega
    · split at hh
      · rename_i hall
        refine Ev.bnd (ask_ev _ X R hXl hRl) (Ev.pos h ?_)
        refine Ev.bnd (clone_ev X hXl) ?_
        rw [List.length_map]
        exact First_l0 hl R hall.2 hRl R.length 0 X (by omega) hXl hall.1
      · omega
  · omega
theorem First_err (L : Int) (X R : List E) (hXl : X.length ≤ 1000000) (hRl : R.length ≤ 1000000) (h : askS L X R ≠ 0) : Ev (fun q => cube_First.f q L (X.map toS) (R.map toS)) ([], askS L X R) := by
  unfold cube_First.f
  exact Ev.bnd (ask_ev L X R hXl hRl) (Ev.neg h (Ev.ret _))
/-- A value, or the error. -/
def atErr (L : Int) (X P : List E) : Int := if LvS L then (if logI (X.length : Int) = (P.length : Int) then (if AllS L X ∧ AllS L P then 0 else 5) else 6) else 1
theorem log_len {X : List E} {k : Nat} (h : logI (X.length : Int) = (k : Int)) : X.length = 2 ^ k := by
  rcases logI_inv (X.length : Int) with e | ⟨m, _, h3, h4⟩
  · omega
  · have : m = k := by omega
    subst this; omega
theorem At_ev (L : Int) (X P : List E) (hXl : X.length ≤ 1000000) (hPl : P.length ≤ 1000000) : Ev (fun q => cube_At.f q L (X.map toS) (P.map toS)) (if atErr L X P = 0 then (toS (value X P), 0) else (toS 0, atErr L X P)) := by
  unfold cube_At.f
  rw [List.length_map, List.length_map]
  by_cases hL : LvS L
  · obtain ⟨v, hv, hw⟩ := wide_in hL
    refine Ev.bnd hw (Ev.neg hv (Ev.bnd (Log_ev _) ?_))
    by_cases hlog : logI (X.length : Int) = (P.length : Int)
    · refine Ev.pos hlog ?_
      have hask : askS L X P = (if AllS L X ∧ AllS L P then 0 else 5) := by
        unfold askS; rw [if_pos hL, if_neg (by rw [hlog]; omega)]
      have hat : atErr L X P = askS L X P := by unfold atErr; rw [if_pos hL, if_pos hlog, hask]
      rw [hat]
      by_cases h0 : askS L X P = 0
      · rw [if_pos h0]
        obtain ⟨hL0, hL7⟩ := hL
        obtain ⟨l, rfl⟩ := Int.eq_ofNat_of_zero_le hL0
        have hp := log_len hlog
        refine Ev.bnd (First_ok (by omega) X P hXl hPl h0) (Ev.pos rfl (Ev.pos ?_ (Ev.ret' ?_)))
        · rw [List.length_map, firsts_length P X P.length hp (Nat.le_refl _), Nat.sub_self]; decide
        · have e : rd38 ((firsts P X).map toS) 0 = toS (value X P) := by
            have := rdS (firsts P X) 0
            rw [value_eq X P hp]; exact this
          rw [e]
      · rw [if_neg h0, toS_zero]
        exact Ev.bnd (First_err L X P hXl hPl h0) (Ev.neg h0 (Ev.ret _))
    · have hat : atErr L X P = 6 := by unfold atErr; rw [if_pos hL, if_neg hlog]
      rw [hat, if_neg (by decide), toS_zero]
      exact Ev.neg hlog (Ev.ret _)
  · have hat : atErr L X P = 1 := by unfold atErr; rw [if_neg hL]
    rw [hat, if_neg (by decide), toS_zero]
    exact Ev.bnd (wide_out hL) (Ev.pos rfl (Ev.ret _))
end Go.Proofs.Ytdpbogooceiaaaa.Sp
namespace Go.Proofs.Ytdpbogooceiaaaa.Sp
open Go.Proofs.Ytdpbogooceiaaaa.V.B Go.RowKit Go.Proofs.Ytdpbogooceiaaaa.B Go.Proofs.Ytdpbogooceiaaaa.V.B.Ar Go.Proofs.Ytdpbogooceiaaaa.V.B.Tw
set_option linter.unusedVariables false
set_option linter.unusedSimpArgs false
/-- The document's weights and values. -/
theorem refOne_ev : Ev (fun k => steepleref15_one.f k) (toR 1) := ⟨0, fun k _ => by unfold steepleref15_one.f toR; rw [hi_one, lo_one]⟩
theorem weight_l0 (P : List E) (hP : P.length ≤ 1000000) : ∀ (d j n : Nat) (acc : E), j + d = P.length → n ≤ 4611686018427387904 →
    Ev (fun q => steepleref15_Weight.l4 q (P.map toR) (n : Int) (j : Int) 0 0 (hi acc) (lo acc)) (toR (acc * weight (P.drop j) n)) := by
  intro d
  induction d with
  | zero =>
    intro j n acc hj hn
    refine Ev.step (fun q => by rw [steepleref15_Weight.l4]) (Ev.neg (by rw [List.length_map]; omega) (Ev.ret' ?_))
    rw [List.drop_eq_nil_of_le (by omega), weight, mul_one]
  | succ d ih =>
    intro j n acc hj hn
    have hj' : j < P.length := by omega
    have e1 : Int.tmod (n : Int) 2 = ((n % 2 : Nat) : Int) := by rw [Int.tmod_eq_emod_of_nonneg (by omega)]; omega
    have e2 : wrap64 (Int.tdiv (n : Int) 2) = ((n / 2 : Nat) : Int) := by
      rw [Int.tdiv_eq_ediv_of_nonneg (by omega), w64_id (by omega) (by omega)]; omega
    have hw : weight (P.drop j) n = (if n % 2 = 1 then P.getD j 0 else 1 + P.getD j 0) * weight (P.drop (j + 1)) (n / 2) := by
      rw [List.drop_eq_getElem_cons hj', weight]
      have : P.getD j 0 = P[j] := by rw [List.getD_eq_getElem?_getD, List.getElem?_eq_getElem hj']; rfl
      rw [this]
    refine Ev.step (fun q => by rw [steepleref15_Weight.l4]) (Ev.pos (by rw [List.length_map]; omega) ?_)
    simp only [e1, e2, rdR, toR_f0, toR_f1, w64_succ hj' (show P.length ≤ 4611686018427387904 by omega)]
    by_cases c : n % 2 = 1
    · refine Ev.pos (by omega) (Ev.pos (Int.natCast_nonneg _) (Ev.pos (by rw [List.length_map]; omega) (Ev.bnd (Product_ev _ _) ?_)))
      rw [hw, if_pos c, ← mul_assoc]
      exact ih (j + 1) (n / 2) _ (by omega) (by omega)
    · refine Ev.neg (by omega) (Ev.bnd refOne_ev (Ev.pos (Int.natCast_nonneg _) (Ev.pos (by rw [List.length_map]; omega) (Ev.bnd (refAdd_ev _ _) (Ev.bnd (Product_ev _ _) ?_)))))
      rw [hw, if_neg c, ← mul_assoc]
      exact ih (j + 1) (n / 2) _ (by omega) (by omega)
theorem weight_ev (P : List E) (hP : P.length ≤ 1000000) (n : Nat) (hn : n ≤ 4611686018427387904) : Ev (fun q => steepleref15_Weight.f q (P.map toR) (n : Int)) (toR (weight P n)) := by
  unfold steepleref15_Weight.f
  refine Ev.bnd refOne_ev ?_
  have := weight_l0 P hP P.length 0 n 1 (by omega) hn
  rw [List.drop_zero, one_mul] at this
  exact this
end Go.Proofs.Ytdpbogooceiaaaa.Sp
namespace Go.Proofs.Ytdpbogooceiaaaa.Sp
open Go.Proofs.Ytdpbogooceiaaaa.V.B Go.RowKit Go.Proofs.Ytdpbogooceiaaaa.B Go.Proofs.Ytdpbogooceiaaaa.V.B.Ar Go.Proofs.Ytdpbogooceiaaaa.V.B.Tw
set_option linter.unusedVariables false
/-- The pair of x and y: y beside each bit that x has. -/
def pick (b : Bool) (y : E) : E := if b then y else 0
theorem pick_true (y : E) : pick true y = y := if_pos rfl
theorem pick_false (y : E) : pick false y = 0 := if_neg Bool.false_ne_true
def pairX (n : Nat) (x y : E) : List E := (List.range n).map fun i => pick ((val x).testBit i) y
theorem pairX_length (n : Nat) (x y : E) : (pairX n x y).length = n := by simp [pairX]
theorem getD_rangeM {α : Type} (f : Nat → α) (d : α) (n i : Nat) (h : i < n) : ((List.range n).map f).getD i d = f i := by
  rw [List.getD_eq_getElem?_getD, List.getElem?_map, List.getElem?_range h]; rfl
theorem range_succM {α : Type} (f : Nat → α) (n : Nat) : (List.range (n + 1)).map f = (List.range n).map f ++ [f n] := by
  rw [List.range_succ, List.map_append]; rfl
theorem pairX_getD (n : Nat) (x y : E) (i : Nat) (h : i < n) : (pairX n x y).getD i 0 = pick ((val x).testBit i) y := getD_rangeM (fun i => pick ((val x).testBit i) y) 0 n i h
theorem pairX_succ (n : Nat) (x y : E) : pairX (n + 1) x y = pairX n x y ++ [pick ((val x).testBit n) y] := range_succM _ n
theorem w128 {l : Nat} (hl : l ≤ 7) : 2 ^ l ≤ 128 := Nat.pow_le_pow_right (n := 2) (by decide) hl
theorem lv_of {L : Int} {x : E} (h : OfS L x) : LvS L := ⟨h.1, h.2.1⟩
theorem rep_zero (n : Nat) : List.replicate n z38 = (List.replicate n (0 : E)).map toS := by rw [List.map_replicate, toS_zero]
def leftO (L : Int) (x : E) : List E := if OfS L x then pairX (2 ^ L.toNat) x 1 else []
def rightO (L : Int) (x : E) : List E := if OfS L x then pairX (2 ^ L.toNat) 1 x else []
theorem one_bit (i : Nat) : (val (1 : E)).testBit i = decide (i = 0) := by
  rw [val_one, show (1 : Nat) = 2 ^ 0 from rfl, Nat.testBit_two_pow]
  simp [eq_comm]
theorem pairX_one (n : Nat) (x : E) (hn : 0 < n) : pairX n 1 x = (List.replicate n (0 : E)).set 0 x := by
  apply List.ext_getElem
  · rw [pairX_length]; simp
  · intro i h1 h2
    rw [pairX_length] at h1
    have e1 : (pairX n 1 x)[i] = (pairX n 1 x).getD i 0 := by rw [List.getD_eq_getElem?_getD, List.getElem?_eq_getElem (by rw [pairX_length]; exact h1)]; rfl
    rw [e1, pairX_getD n 1 x i h1, one_bit, List.getElem_set]
    by_cases c : i = 0
    · subst c; simp [pick_true]
    · rw [decide_eq_false c, pick_false, if_neg (fun h => c h.symm), List.getElem_replicate]
end Go.Proofs.Ytdpbogooceiaaaa.Sp
namespace Go.Proofs.Ytdpbogooceiaaaa.Sp
open Go.Proofs.Ytdpbogooceiaaaa.V.B Go.RowKit Go.Proofs.Ytdpbogooceiaaaa.B Go.Proofs.Ytdpbogooceiaaaa.V.B.Ar Go.Proofs.Ytdpbogooceiaaaa.V.B.Tw
set_option linter.unusedVariables false
theorem pick_add (b : Bool) (y z : E) : pick b (y + z) = pick b y + pick b z := by
  cases b
  · rw [pick_false, pick_false, pick_false, add_zero]
  · rw [pick_true, pick_true, pick_true]
theorem pick_mul (b : Bool) (y z : E) : pick b (y * z) = pick b y * z := by
  cases b
  · rw [pick_false, pick_false, zero_mul]
  · rw [pick_true, pick_true]
theorem pick_zero (b : Bool) : pick b (0 : E) = 0 := by
  cases b
  · exact pick_false _
  · exact pick_true _
theorem pick_xor (a b : Bool) (y : E) : pick (a ^^ b) y = pick a y + pick b y := by
  cases a <;> cases b
  · show pick false y = _; rw [pick_false, add_zero]
  · show pick true y = _; rw [pick_false, pick_true, zero_add]
  · show pick true y = _; rw [pick_false, pick_true, add_zero]
  · show pick false y = _; rw [pick_false, pick_true, add_self]
theorem pick_comm (a b : Bool) (y : E) : pick a (pick b y) = pick b (pick a y) := by
  cases a <;> cases b <;> simp only [pick_true, pick_false]
/-- Has an element the bit? -/
def hasB (x : E) (k : Nat) : Bool := (val x).testBit k
theorem hasB_add (x y : E) (k : Nat) : hasB (x + y) k = (hasB x k ^^ hasB y k) := by
  unfold hasB; rw [val_add, Nat.testBit_xor]
theorem hasB_zero (k : Nat) : hasB 0 k = false := by unfold hasB; rw [val_zero, Nat.zero_testBit]
/-- What the bit k of z picks of y is a sum in z. -/
theorem pick_hasB_add (x z y : E) (k : Nat) : pick (hasB (x + z) k) y = pick (hasB x k) y + pick (hasB z k) y := by rw [hasB_add, pick_xor]
theorem pick_hasB_sum (f : Nat → E) (y : E) (k : Nat) : ∀ n, pick (hasB (sumN f n) k) y = sumN (fun u => pick (hasB (f u) k) y) n
  | 0 => by rw [sumN, sumN, hasB_zero, pick_false]
  | n + 1 => by rw [sumN, sumN, pick_hasB_add, pick_hasB_sum f y k n]
theorem pick_hasB_pick (b : Bool) (x y : E) (k : Nat) : pick (hasB (pick b x) k) y = pick b (pick (hasB x k) y) := by
  cases b
  · rw [pick_false, pick_false, hasB_zero, pick_false]
  · rw [pick_true, pick_true]
theorem pick_sum (b : Bool) (f : Nat → E) : ∀ n, pick b (sumN f n) = sumN (fun u => pick b (f u)) n
  | 0 => pick_zero b
  | n + 1 => by rw [sumN, sumN, pick_add, pick_sum b f n]
theorem sumN_mulr (c : E) (f : Nat → E) (n : Nat) : sumN (fun i => f i * c) n = sumN f n * c := by
  rw [mul_comm, ← sumN_mul]
  exact sumN_congr n (fun i _ => mul_comm _ _)
theorem sumN_swap (f : Nat → Nat → E) (n : Nat) : ∀ m, sumN (fun i => sumN (fun j => f i j) m) n = sumN (fun j => sumN (fun i => f i j) n) m
  | 0 => sumN_zero n
  | m + 1 => by
    rw [sumN, ← sumN_swap f n m, ← sumN_add]
    exact sumN_congr n (fun i _ => rfl)
theorem sumN_one (f : Nat → E) (n i : Nat) (hi : i < n) (h : ∀ j, j < n → j ≠ i → f j = 0) : sumN f n = f i := by
  induction n with
  | zero => omega
  | succ n ih =>
    rw [sumN]
    by_cases c : i = n
    · subst c
      have : sumN f i = 0 := by
        rw [sumN_congr (g := fun _ => 0) i (fun j hj => h j (by omega) (by omega))]; exact sumN_zero i
      rw [this, zero_add]
    · rw [ih (by omega) (fun j hj hne => h j (by omega) hne), h n (by omega) (fun e => c e.symm), add_zero]
theorem val_bitE {n : Nat} (hn : n < 128) : val (bitE n) = 2 ^ n := by
  unfold bitE
  exact val_of 7 _ (by rw [Q_seven]; exact Nat.pow_lt_pow_right (by decide) hn)
theorem val_pick (b : Bool) (x : E) : val (pick b x) = if b then val x else 0 := by
  cases b
  · rw [pick_false, val_zero]; rfl
  · rw [pick_true]; rfl
/-- An element is the sum of its bits. -/
theorem val_expand (x : E) : ∀ n, n ≤ 128 → val (sumN (fun u => pick (hasB x u) (bitE u)) n) = val x % 2 ^ n
  | 0, _ => by rw [sumN, val_zero, Nat.pow_zero, Nat.mod_one]
  | n + 1, h => by
    rw [sumN, val_add, val_expand x n (by omega), val_pick, val_bitE (by omega)]
    apply Nat.eq_of_testBit_eq
    intro j
    rw [Nat.testBit_xor, Nat.testBit_mod_two_pow, Nat.testBit_mod_two_pow]
    show _ = _
    unfold hasB
    generalize val x = v
    by_cases c : j = n
    · subst c
      cases hb : v.testBit j with
      | true => rw [if_pos rfl, Nat.testBit_two_pow_self]; simp
      | false => rw [if_neg Bool.false_ne_true, Nat.zero_testBit]; simp
    · have h2 : (if v.testBit n then 2 ^ n else 0 : Nat).testBit j = false := by
        cases v.testBit n with
        | true => rw [if_pos rfl, Nat.testBit_two_pow]; simp; omega
        | false => rw [if_neg Bool.false_ne_true, Nat.zero_testBit]
      rw [h2, Bool.xor_false]
      have : decide (j < n + 1) = decide (j < n) := by rw [decide_eq_decide]; omega
      rw [this]
theorem expand {l : Nat} (hl : l ≤ 7) {x : E} (hx : InL l x) : sumN (fun u => pick (hasB x u) (bitE u)) (2 ^ l) = x := by
  apply val_inj
  rw [val_expand x (2 ^ l) (w128 hl)]
  exact Nat.mod_eq_of_lt hx
theorem bitE_in {l u : Nat} (hl : l ≤ 7) (hu : u < 2 ^ l) : InL l (bitE u) := by
  unfold InL Q
  rw [val_bitE (Nat.lt_of_lt_of_le hu (w128 hl))]
  exact Nat.pow_lt_pow_right (by decide) hu
theorem bitE_zero : bitE 0 = 1 := by
  apply val_inj; rw [val_bitE (by decide), val_one]
/-- The bits of a product are sums of those of the products of bits. -/
theorem has_mul {l : Nat} (hl : l ≤ 7) {x : E} (hx : InL l x) (a y : E) (k : Nat) : sumN (fun u => pick (hasB x u) (pick (hasB (bitE u * a) k) y)) (2 ^ l) = pick (hasB (x * a) k) y := by
  have h1 : x * a = sumN (fun u => pick (hasB x u) (bitE u * a)) (2 ^ l) := by
    conv => lhs; rw [← expand hl hx]
    rw [← sumN_mulr]
    exact sumN_congr _ (fun u _ => (pick_mul _ _ _).symm)
  rw [h1, pick_hasB_sum]
  exact sumN_congr _ (fun u _ => (pick_hasB_pick _ _ _ _).symm)
/-- Part k of a tensor times an element on the left, its parts times another one. -/
def actT (n : Nat) (t : Nat → E) (a p : E) (k : Nat) : E := sumN (fun u => pick (hasB (bitE u * a) k) (t u * p)) n
theorem actT_pair {l : Nat} (hl : l ≤ 7) {x : E} (hx : InL l x) (y a p : E) (k : Nat) : actT (2 ^ l) (fun u => pick (hasB x u) y) a p k = pick (hasB (x * a) k) (y * p) := by
  unfold actT
  rw [← has_mul hl hx a (y * p) k]
  exact sumN_congr _ (fun u _ => by rw [← pick_mul, pick_comm])
theorem actT_congr (n : Nat) {t s : Nat → E} (a p : E) (k : Nat) (h : ∀ u, u < n → t u = s u) : actT n t a p k = actT n s a p k := by
  unfold actT; exact sumN_congr _ (fun u hu => by rw [h u hu])
theorem actT_sum (n m : Nat) (t : Nat → Nat → E) (a p : E) (k : Nat) : actT n (fun u => sumN (fun i => t i u) m) a p k = sumN (fun i => actT n (t i) a p k) m := by
  unfold actT
  rw [sumN_swap (fun i u => pick (hasB (bitE u * a) k) (t i u * p)) m n]
  exact sumN_congr _ (fun u _ => by rw [← sumN_mulr, pick_sum])
theorem actT_add (n : Nat) (t s : Nat → E) (a p : E) (k : Nat) : actT n (fun u => t u + s u) a p k = actT n t a p k + actT n s a p k := by
  unfold actT
  rw [← sumN_add]
  exact sumN_congr _ (fun u _ => by rw [add_mul, pick_add])
theorem pick_in {l : Nat} {x : E} (b : Bool) (h : InL l x) : InL l (pick b x) := by
  cases b
  · rw [pick_false]; exact inL_zero l
  · rw [pick_true]; exact h
theorem sumN_in {l : Nat} (f : Nat → E) : ∀ n, (∀ i, i < n → InL l (f i)) → InL l (sumN f n)
  | 0, _ => inL_zero l
  | n + 1, h => by rw [sumN]; exact inL_add (sumN_in f n (fun i hi => h i (by omega))) (h n (by omega))
theorem actT_in {l : Nat} (hl : l ≤ 7) (n : Nat) (t : Nat → E) (a p : E) (k : Nat) (ht : ∀ u, u < n → InL l (t u)) (hp : InL l p) : InL l (actT n t a p k) :=
  sumN_in _ n (fun u hu => pick_in _ (inL_mul hl (ht u hu) hp))
/-- Weights, variable by variable from behind. -/
theorem weight_in {l : Nat} (hl : l ≤ 7) : ∀ (P : List E) (i : Nat), (∀ p ∈ P, InL l p) → InL l (weight P i)
  | [], i, _ => inL_one l
  | p :: ps, i, h => by
    have hp := h p List.mem_cons_self
    rw [weight]
    refine inL_mul hl ?_ (weight_in hl ps (i / 2) (fun q hq => h q (List.mem_cons_of_mem _ hq)))
    split
    · exact hp
    · exact inL_add (inL_one l) hp
theorem weight_snoc (p : E) : ∀ (P : List E) (i : Nat), weight (P ++ [p]) i = weight P i * (if i / 2 ^ P.length % 2 = 1 then p else 1 + p)
  | [], i => by
    show weight (p :: []) i = weight [] i * _
    rw [weight, weight, weight, mul_one, one_mul]
    simp
  | q :: Q, i => by
    show weight (q :: (Q ++ [p])) i = weight (q :: Q) i * _
    rw [weight, weight, weight_snoc p Q (i / 2), mul_assoc, Nat.div_div_eq_div_mul, List.length_cons, Nat.pow_succ, Nat.mul_comm 2]
theorem weight_high (b : Nat) : ∀ (P : List E) (i : Nat), i < 2 ^ P.length → weight P (2 ^ P.length * b + i) = weight P i
  | [], i, _ => rfl
  | q :: Q, i, h => by
    rw [List.length_cons, Nat.pow_succ] at h
    have e1 : (2 ^ (q :: Q).length * b + i) % 2 = i % 2 := by
      rw [List.length_cons, Nat.pow_succ, Nat.mul_comm (2 ^ Q.length) 2, Nat.mul_assoc]; omega
    have e2 : (2 ^ (q :: Q).length * b + i) / 2 = 2 ^ Q.length * b + i / 2 := by
      rw [List.length_cons, Nat.pow_succ, Nat.mul_comm (2 ^ Q.length) 2, Nat.mul_assoc]; omega
    rw [weight, weight, e1, e2, weight_high b Q (i / 2) (by omega)]
theorem weight_low (p : E) (P : List E) (i : Nat) (h : i < 2 ^ P.length) : weight (P ++ [p]) i = weight P i * (1 + p) := by
  rw [weight_snoc, Nat.div_eq_of_lt h]; rfl
theorem weight_up (p : E) (P : List E) (i : Nat) (h : i < 2 ^ P.length) : weight (P ++ [p]) (2 ^ P.length + i) = weight P i * p := by
  have h0 := weight_high 1 P i h
  rw [Nat.mul_one] at h0
  have e : (2 ^ P.length + i) / 2 ^ P.length % 2 = 1 := by
    rw [Nat.add_div_left _ (Nat.two_pow_pos _), Nat.div_eq_of_lt h]
  rw [weight_snoc, h0, e]; rfl
/-- How alike two points are, part by part. -/
def alikeX (P R : List E) (k : Nat) : E := sumN (fun i => pick (hasB (weight P i) k) (weight R i)) (2 ^ P.length)
theorem alikeX_nil (k : Nat) : alikeX [] [] k = pick (hasB 1 k) 1 := by
  unfold alikeX
  show sumN _ 1 = _
  rw [sumN, sumN, zero_add]; rfl
theorem alikeX_snoc {l : Nat} (hl : l ≤ 7) (P R : List E) (p r : E) (hP : ∀ x ∈ P, InL l x) (hlen : P.length = R.length) (k : Nat) :
    alikeX (P ++ [p]) (R ++ [r]) k = alikeX P R k + actT (2 ^ l) (alikeX P R) p 1 k + alikeX P R k * r := by
  have e1 : actT (2 ^ l) (alikeX P R) p 1 k = sumN (fun i => pick (hasB (weight P i * p) k) (weight R i)) (2 ^ P.length) := by
    unfold alikeX
    rw [actT_sum]
    exact sumN_congr _ (fun i _ => by rw [actT_pair hl (weight_in hl P i hP), mul_one])
  have e2 : alikeX P R k * r = sumN (fun i => pick (hasB (weight P i) k) (weight R i * r)) (2 ^ P.length) := by
    unfold alikeX
    rw [← sumN_mulr]
    exact sumN_congr _ (fun i _ => (pick_mul _ _ _).symm)
  rw [e1, e2]
  unfold alikeX
  rw [← sumN_add, ← sumN_add, List.length_append, List.length_singleton, Nat.pow_succ, Nat.mul_two, sumN_split, ← sumN_add]
  apply sumN_congr
  intro i hi
  have hi' : i < 2 ^ R.length := by rw [← hlen]; exact hi
  rw [weight_low p P i hi, weight_up p P i hi, weight_low r R i hi', show 2 ^ P.length + i = 2 ^ R.length + i by rw [hlen], weight_up r R i hi']
  generalize weight P i = w
  generalize weight R i = v
  rw [mul_add, mul_add, mul_one, mul_one, pick_hasB_add, pick_add, pick_add]
  generalize pick (hasB w k) v = a
  generalize pick (hasB (w * p) k) v = b
  generalize pick (hasB w k) (v * r) = c
  generalize pick (hasB (w * p) k) (v * r) = d
  have : a + c + (b + d) + d = a + b + c := by
    rw [add_assoc (a + c), add_assoc b d d, add_self, add_zero, add_assoc a c b, add_comm c b, ← add_assoc]
  exact this
end Go.Proofs.Ytdpbogooceiaaaa.Sp
namespace Go.Proofs.Ytdpbogooceiaaaa.Sp
open Go.Proofs.Ytdpbogooceiaaaa.V.B Go.RowKit Go.Proofs.Ytdpbogooceiaaaa.B Go.Proofs.Ytdpbogooceiaaaa.V.B.Ar Go.Proofs.Ytdpbogooceiaaaa.V.B.Tw
set_option linter.unusedVariables false
/-- A list of so many elements. -/
def tabL (n : Nat) (f : Nat → E) : List E := (List.range n).map f
theorem tabL_length (n : Nat) (f : Nat → E) : (tabL n f).length = n := by simp [tabL]
theorem tabL_getD (n : Nat) (f : Nat → E) (i : Nat) (h : i < n) : (tabL n f).getD i 0 = f i := getD_rangeM f 0 n i h
theorem tabL_congr (n : Nat) {f g : Nat → E} (h : ∀ i, i < n → f i = g i) : tabL n f = tabL n g := by
  unfold tabL
  apply List.map_congr_left
  intro i hi
  exact h i (List.mem_range.1 hi)
theorem tabL_self (X : List E) : tabL X.length (fun i => X.getD i 0) = X := by
  apply ext_getD (tabL_length _ _)
  intro i hi
  rw [tabL_length] at hi
  exact tabL_getD _ _ i hi
theorem tabL_set (n : Nat) (f g : Nat → E) (i : Nat) (hi : i < n) (hg : ∀ k, k < n → k ≠ i → g k = f k) : (tabL n f).set i (g i) = tabL n g := by
  apply ext_getD
  · rw [List.length_set, tabL_length, tabL_length]
  · intro k hk
    rw [List.length_set, tabL_length] at hk
    rw [tabL_getD n g k hk]
    by_cases c : i = k
    · subst c
      exact getD_set_self (by rw [tabL_length]; exact hi) _
    · rw [getD_set_ne c, tabL_getD n f k hk, hg k hk (fun e => c e.symm)]
theorem tabL_replicate (n : Nat) : List.replicate n (0 : E) = tabL n (fun _ => 0) := by
  apply ext_getD
  · rw [List.length_replicate, tabL_length]
  · intro i hi
    rw [List.length_replicate] at hi
    rw [tabL_getD n _ i hi, List.getD_eq_getElem?_getD, List.getElem?_replicate, if_pos hi]; rfl
theorem tabL_all {l : Nat} (hl : l ≤ 7) (n : Nat) (f : Nat → E) (h : ∀ i, i < n → InL l (f i)) : AllS (l : Int) (tabL n f) := by
  intro x hx
  unfold tabL at hx
  obtain ⟨i, hi, rfl⟩ := List.mem_map.1 hx
  exact ⟨by omega, by omega, by rw [Int.toNat_natCast]; exact h i (List.mem_range.1 hi)⟩
theorem ofS_of {l : Nat} (hl : l ≤ 7) {x : E} (h : InL l x) : OfS (l : Int) x := ⟨by omega, by omega, by rw [Int.toNat_natCast]; exact h⟩
theorem inL_of {l : Nat} {x : E} (h : OfS (l : Int) x) : InL l x := by have := h.2.2; rwa [Int.toNat_natCast] at this
/-- One product's bits, each with y, added to what there is. -/
def bitAdd (f : Nat → E) (z y : E) (i k : Nat) : E := f k + pick (decide (k < i) && hasB z k) y
theorem bitAdd_zero (f : Nat → E) (z y : E) (k : Nat) : bitAdd f z y 0 k = f k := by
  unfold bitAdd
  rw [decide_eq_false (Nat.not_lt_zero k), Bool.false_and, pick_false, add_zero]
theorem bitAdd_at (f : Nat → E) (z y : E) (i : Nat) : bitAdd f z y i i = f i := by
  unfold bitAdd
  rw [decide_eq_false (Nat.lt_irrefl i), Bool.false_and, pick_false, add_zero]
theorem bitAdd_next (f : Nat → E) (z y : E) (i k : Nat) (h : k ≠ i) : bitAdd f z y (i + 1) k = bitAdd f z y i k := by
  unfold bitAdd
  have : decide (k < i + 1) = decide (k < i) := by rw [decide_eq_decide]; omega
  rw [this]
theorem bitAdd_now (f : Nat → E) (z y : E) (i : Nat) : bitAdd f z y (i + 1) i = f i + pick (hasB z i) y := by
  unfold bitAdd
  rw [decide_eq_true (Nat.lt_succ_self i), Bool.true_and]
theorem bitAdd_end (f : Nat → E) (z y : E) (n k : Nat) (h : k < n) : bitAdd f z y n k = f k + pick (hasB z k) y := by
  unfold bitAdd
  rw [decide_eq_true h, Bool.true_and]
-- @IF packvbyLeft
end Go.Proofs.Ytdpbogooceiaaaa.Sp
namespace Go.Proofs.Ytdpbogooceiaaaa.Sp
open Go.Proofs.Ytdpbogooceiaaaa.V.B Go.RowKit Go.Proofs.Ytdpbogooceiaaaa.B Go.Proofs.Ytdpbogooceiaaaa.V.B.Ar Go.Proofs.Ytdpbogooceiaaaa.V.B.Tw
set_option linter.unusedVariables false
set_option linter.unusedSimpArgs false
/-- A table bound in its last variable. -/
def lastE (r : E) (X : List E) (i : Nat) : E := X.getD i 0 + r * (X.getD i 0 + X.getD (X.length / 2 + i) 0)
def last (r : E) (X : List E) : List E := tabL (X.length / 2) (lastE r X)
def lasts : List E → List E → List E
  | [], X => X
  | r :: R, X => lasts R (last r X)
theorem last_length (r : E) (X : List E) : (last r X).length = X.length / 2 := tabL_length _ _
theorem last_getD (r : E) (X : List E) (i : Nat) (h : i < X.length / 2) : (last r X).getD i 0 = lastE r X i := tabL_getD _ _ i h
theorem allS_last {l : Nat} (hl : l ≤ 7) {X : List E} {r : E} (hX : AllS (l : Int) X) (hr : InL l r) : AllS (l : Int) (last r X) :=
  tabL_all hl _ _ fun i _ => inL_add (allS_getD hX _) (inL_mul hl hr (inL_add (allS_getD hX _) (allS_getD hX _)))
theorem lasts_length : ∀ (R X : List E) (k : Nat), X.length = 2 ^ k → R.length ≤ k → (lasts R X).length = 2 ^ (k - R.length)
  | [], X, k, h, _ => by rw [lasts, h]; rfl
  | r :: R, X, 0, h, hr => by simp at hr
  | r :: R, X, k + 1, h, hr => by
    rw [List.length_cons] at hr
    have hp := pow_len h
    have h2 : X.length / 2 = 2 ^ k := by rw [h, Nat.pow_succ]; omega
    rw [lasts, lasts_length R (last r X) k (by rw [last_length, h2]) (by omega), List.length_cons]
    congr 1; omega
theorem allS_lasts {l : Nat} (hl : l ≤ 7) : ∀ (R X : List E), AllS (l : Int) R → AllS (l : Int) X → AllS (l : Int) (lasts R X)
  | [], X, _, hX => hX
  | r :: R, X, hR, hX => allS_lasts hl R _ (fun x hx => hR x (List.mem_cons_of_mem _ hx)) (allS_last hl hX (inL_of (hR r List.mem_cons_self)))
theorem allS_firsts {l : Nat} (hl : l ≤ 7) : ∀ (R X : List E), AllS (l : Int) R → AllS (l : Int) X → AllS (l : Int) (firsts R X)
  | [], X, _, hX => hX
  | r :: R, X, hR, hX => allS_firsts hl R _ (fun x hx => hR x (List.mem_cons_of_mem _ hx)) (allS_first hl hX (inL_of (hR r List.mem_cons_self)))
theorem value_last (X : List E) (r : E) (P : List E) (h : X.length = 2 ^ (P.length + 1)) : value X (P ++ [r]) = value (last r X) P := by
  have h2 : X.length / 2 = 2 ^ P.length := by rw [h, Nat.pow_succ]; omega
  have h3 : X.length = 2 ^ P.length + 2 ^ P.length := by rw [h, Nat.pow_succ]; omega
  unfold value
  rw [last_length, h2]
  conv => lhs; rw [h3]
  rw [sumN_split, ← sumN_add]
  apply sumN_congr
  intro i hi'
  rw [weight_low r P i hi', weight_up r P i hi', last_getD r X i (by rw [h2]; exact hi')]
  unfold lastE
  rw [h2]
  generalize X.getD i 0 = a
  generalize X.getD (2 ^ P.length + i) 0 = b
  generalize weight P i = w
  simp only [add_mul, mul_add, mul_one, mul_assoc, add_assoc]
  rw [mul_comm w r, mul_left_comm a r w, mul_left_comm b r w]
theorem value_lasts : ∀ (R X P : List E) (k : Nat), X.length = 2 ^ k → R.length + P.length = k → value X (P ++ R.reverse) = value (lasts R X) P
  | [], X, P, k, h, hk => by rw [lasts, List.reverse_nil, List.append_nil]
  | r :: R, X, P, k, h, hk => by
    rw [List.length_cons] at hk
    obtain ⟨m, rfl⟩ : ∃ m, k = m + 1 := ⟨k - 1, by omega⟩
    have h2 : X.length / 2 = 2 ^ m := by rw [h, Nat.pow_succ]; omega
    have hl : (P ++ R.reverse).length + 1 = m + 1 := by rw [List.length_append, List.length_reverse]; omega
    rw [lasts, List.reverse_cons, ← List.append_assoc, value_last X r (P ++ R.reverse) (by rw [hl, h]), value_lasts R (last r X) P m (by rw [last_length, h2]) (by omega)]
theorem Last_l10 {l : Nat} (hl : l ≤ 7) (X0 : List E) (hlen : X0.length ≤ 1000000) (hX : AllS (l : Int) X0) (r : E) (hr : InL l r) (RS : List S38) (m t : Int) {res : List S38 × Int}
    (hk : Ev (fun q => cube_Last.l6 q (l : Int) RS m (wrap64 (t + 1)) ((last r X0).map toS)) res) :
    ∀ (d i : Nat) (X : List E), i + d = X0.length / 2 → X.length = X0.length → (∀ j, j < i → X.getD j 0 = (last r X0).getD j 0) → (∀ j, i ≤ j → X.getD j 0 = X0.getD j 0) →
    Ev (fun q => cube_Last.l10 q (l : Int) ((X0.length / 2 : Nat) : Int) RS m t ((X0.length / 2 : Nat) : Int) (i : Int) (X.map toS) (hi r) (lo r)) res := by
  intro d
  induction d with
  | zero =>
    intro i X hid hXl h1 h2
    refine Ev.step (fun q => by rw [cube_Last.l10]) (Ev.neg (by omega) (Ev.pos (Int.natCast_nonneg _) (Ev.pos (by rw [List.length_map]; omega) ?_)))
    rw [Int.toNat_natCast, ← List.map_take]
    have e : X.take (X0.length / 2) = last r X0 := by
      apply ext_getD
      · rw [List.length_take, last_length]; omega
      · intro j hj
        rw [List.length_take] at hj
        rw [getD_take (by omega)]; exact h1 j (by omega)
    rw [e]; exact hk
  | succ d ih =>
    intro i X hid hXl h1 h2
    have hi2 : i < X0.length / 2 := by omega
    refine Ev.step (fun q => by rw [cube_Last.l10]) (Ev.pos (by omega) ?_)
    rw [w64_add (show X0.length / 2 ≤ 2305843009213693952 by omega) (show i ≤ 2305843009213693952 by omega), rdS, rdS, List.length_map]
    refine Ev.pos (Int.natCast_nonneg _) (Ev.pos (by omega) (Ev.pos (Int.natCast_nonneg _) (Ev.pos (by omega) ?_)))
    rw [h2 i (by omega), h2 (X0.length / 2 + i) (by omega)]
    refine Ev.bnd (between_ev hl (allS_getD hX _) (allS_getD hX _) hr) (Ev.pos (Int.natCast_nonneg _) (Ev.pos (by omega) ?_))
    rw [Int.toNat_natCast, map_set, w64_succ hi2 (by omega)]
    refine ih (i + 1) _ (by omega) (by rw [List.length_set, hXl]) (fun j hj => ?_) (fun j hj => ?_)
    · by_cases e : j = i
      · subst e
        rw [getD_set_self (by omega), last_getD r X0 j hi2]; rfl
      · rw [getD_set_ne (by omega)]; exact h1 j (by omega)
    · rw [getD_set_ne (by omega)]; exact h2 j (by omega)
theorem Last_l6 {l : Nat} (hl : l ≤ 7) (R : List E) (hR : AllS (l : Int) R) (hRl : R.length ≤ 1000000) : ∀ (d t : Nat) (X : List E), t + d = R.length → X.length ≤ 1000000 → AllS (l : Int) X →
    Ev (fun q => cube_Last.l6 q (l : Int) (R.map toS) (R.length : Int) (t : Int) (X.map toS)) ((lasts (R.drop t) X).map toS, 0) := by
  intro d
  induction d with
  | zero =>
    intro t X ht hXl hX
    refine Ev.step (fun q => by rw [cube_Last.l6]) (Ev.neg (by omega) (Ev.ret' ?_))
    rw [List.drop_eq_nil_of_le (by omega)]; rfl
  | succ d ih =>
    intro t X ht hXl hX
    have ht' : t < R.length := by omega
    refine Ev.step (fun q => by rw [cube_Last.l6]) (Ev.pos (by omega) (Ev.pos (Int.natCast_nonneg _) (Ev.pos (by rw [List.length_map]; omega) ?_)))
    simp only [rdS, toS_f0, toS_f1, List.length_map, tdiv_half X.length hXl]
    have hr := allS_getD hR t
    have hih := ih (t + 1) (last (R.getD t 0) X) (by omega) (by rw [last_length]; omega) (allS_last hl hX hr)
    rw [← w64_succ ht' (show R.length ≤ 4611686018427387904 by omega)] at hih
    have := Last_l10 hl X hXl hX (R.getD t 0) hr (R.map toS) (R.length : Int) (t : Int) hih (X.length / 2) 0 X (by omega) rfl (fun j hj => by omega) (fun j _ => rfl)
    have e : lasts (R.drop t) X = lasts (R.drop (t + 1)) (last (R.getD t 0) X) := by
      rw [List.drop_eq_getElem_cons ht', lasts]
      congr 2
      rw [List.getD_eq_getElem?_getD, List.getElem?_eq_getElem ht']; rfl
    rw [e]; exact this
theorem ask_zero {L : Int} {X R : List E} (h : askS L X R = 0) : LvS L ∧ ¬ (logI (X.length : Int) < 0 ∨ (R.length : Int) > logI (X.length : Int)) ∧ AllS L X ∧ AllS L R := by
  unfold askS at h
  split at h
  · split at h
    · cases h
    · split at h
      · exact ⟨by assumption, by assumption, by assumption⟩
      · cases h
  · cases h
theorem Last_ev (L : Int) (X R : List E) (hXl : X.length ≤ 1000000) (hRl : R.length ≤ 1000000) : Ev (fun q => cube_Last.f q L (X.map toS) (R.map toS)) (if askS L X R = 0 then ((lasts R X).map toS, 0) else ([], askS L X R)) := by
  unfold cube_Last.f
  refine Ev.bnd (ask_ev L X R hXl hRl) (Ev.cond (fun h => ?_) fun _ => Ev.ret _)
  obtain ⟨hL, _, hX, hR⟩ := ask_zero h
  obtain ⟨l, rfl⟩ := Int.eq_ofNat_of_zero_le hL.1
  refine Ev.bnd (clone_ev X hXl) ?_
  rw [List.length_map]
  exact Last_l6 (by have := hL.2; omega) R hR hRl R.length 0 X (by omega) hXl hX
theorem First_ev (L : Int) (X R : List E) (hXl : X.length ≤ 1000000) (hRl : R.length ≤ 1000000) : Ev (fun q => cube_First.f q L (X.map toS) (R.map toS)) (if askS L X R = 0 then ((firsts R X).map toS, 0) else ([], askS L X R)) := by
  by_cases h : askS L X R = 0
  · rw [if_pos h]
    obtain ⟨hL, _⟩ := ask_zero h
    obtain ⟨l, rfl⟩ := Int.eq_ofNat_of_zero_le hL.1
    exact First_ok (by have := hL.2; omega) X R hXl hRl h
  · rw [if_neg h]
    exact First_err L X R hXl hRl h
theorem refLog_l3 (n : Int) : ∀ (d k : Nat), k + d = 17 → Ev (fun q => steepleref15_Log.l3 q n ((2 ^ k : Nat) : Int) (k : Int)) (logFrom n k d) := by
  intro d
  induction d with
  | zero =>
    intro k hk
    have h17 : ¬ ((k : Int) ≤ 16) := by omega
    refine Ev.step (fun q => by rw [steepleref15_Log.l3]) (Ev.neg h17 ?_)
    exact Ev.ret' rfl
  | succ d ih =>
    intro k hk
    have hp : (2 : Nat) ^ k ≤ 2 ^ 16 := Nat.pow_le_pow_right (by decide) (by omega)
    have e : wrap64 (2 * ((2 ^ k : Nat) : Int)) = ((2 ^ (k + 1) : Nat) : Int) := by
      rw [Nat.pow_succ]
      generalize 2 ^ k = p at hp ⊢
      rw [w64_id (by omega) (by omega)]; omega
    refine Ev.step (fun q => by rw [steepleref15_Log.l3]) (Ev.pos (by omega) ?_)
    rw [logFrom, e, w64_succ (show k < 17 by omega) (by decide)]
    by_cases c : n = ((2 ^ k : Nat) : Int)
    · rw [if_pos c]; exact Ev.pos c.symm (Ev.ret _)
    · rw [if_neg c]
      exact Ev.neg (fun h => c h.symm) (ih (k + 1) (by omega))
theorem refLog_ev (n : Int) : Ev (fun q => steepleref15_Log.f q n) (logI n) := refLog_l3 n 17 0 (by omega)
theorem refMay15_ev (L : Int) (X R : List E) (hX : X.length ≤ 1000000) (hR : R.length ≤ 1000000) : Ev (fun k => steepleref15_May.f k L (X.map toR) (R.map toR)) (askS L X R) := by
  unfold steepleref15_May.f
  rw [List.length_map, List.length_map]
  by_cases hL : LvS L
  rotate_left
  · have e : askS L X R = 1 := if_neg hL
    rw [e]
    refine Ev.both (fun _ => Ev.ret _) fun h1 => Ev.pos ?_ (Ev.ret _)
    unfold LvS at hL; omega
  have h0 := hL.1
  have h7 := hL.2
  have h6 : (logI (X.length : Int) < 0 ∨ (R.length : Int) > logI (X.length : Int)) → 6 = askS L X R := fun h => by unfold askS; rw [if_pos hL, if_pos h]
  refine Ev.neg (by omega) (Ev.neg (by omega) (Ev.bnd (refLog_ev _) (Ev.both (fun c1 => Ev.ret' (h6 (.inl c1))) fun c1 => Ev.bnd (refLog_ev _) (Ev.both (fun c2 => Ev.ret' (h6 (.inr c2))) fun c2 => ?_))))
  have hno : ¬ (logI (X.length : Int) < 0 ∨ (R.length : Int) > logI (X.length : Int)) := fun h => h.elim c1 c2
  have e : askS L X R = if AllS L X ∧ AllS L R then 0 else 5 := by unfold askS; rw [if_pos hL, if_neg hno]
  rw [e]
  refine Ev.bnd (All_ev L X hX) (Ev.nd (fun c3 => Ev.ret' (if_neg fun h => c3 h.1).symm) fun c3 => Ev.bnd (All_ev L R hR) (Ev.nd (fun c4 => Ev.ret' (if_neg fun h => c4 h.2).symm) fun c4 => Ev.ret' (if_pos ⟨c3, c4⟩).symm))
theorem refFirst_ev (X : List E) (r : E) (hX : X.length ≤ 1000000) : Ev (fun q => steepleref15_First.f q (X.map toR) (toR r)) ((first r X).map toR) := by
  unfold steepleref15_First.f
  refine Ev.down (g := fun j q => steepleref15_First.l3 q (X.map toR) ((2 * j : Nat) : Int) (hi r) (lo r) (((first r X).take j).map toR)) (n := X.length / 2) ?_ fun j hj hih => ?_
  · have e : wrap64 (((2 * (X.length / 2) : Nat) : Int) + 1) = ((2 * (X.length / 2) + 1 : Nat) : Int) := w64_succ (show 2 * (X.length / 2) < 1000001 by omega) (by decide)
    refine Ev.step (fun q => by rw [steepleref15_First.l3]) ?_
    rw [e, List.length_map]
    clear e
    refine Ev.neg (by omega) ?_
    rw [List.take_of_length_le (by rw [first_length]; exact Nat.le_refl _)]
    exact Ev.ret _
  · have e : wrap64 (((2 * j : Nat) : Int) + 1) = ((2 * j + 1 : Nat) : Int) := w64_succ (show 2 * j < X.length by omega) (by omega)
    have e2 : wrap64 (((2 * j : Nat) : Int) + 2) = ((2 * (j + 1) : Nat) : Int) := by rw [w64_id (by omega) (by omega)]; omega
    have f0 : ((2 * j + 1 : Nat) : Int) < ((X.map toR).length : Int) := by rw [List.length_map]; omega
    have f1 : 2 * j < (X.map toR).length := by rw [List.length_map]; omega
    have f2 : 2 * j + 1 < (X.map toR).length := by rw [List.length_map]; omega
    have f3 : (((first r X).take j).map toR).length + 1 ≤ 140737488355328 / 16 := by rw [List.length_map, List.length_take]; omega
    have hs : (first r X).take (j + 1) = (first r X).take j ++ [(first r X).getD j 0] := by
      rw [List.take_succ_eq_append_getElem (by rw [first_length]; exact hj), List.getD_eq_getElem?_getD, List.getElem?_eq_getElem (by rw [first_length]; exact hj)]; rfl
    rw [hs, List.map_append, first_getD r X j hj, between_eq] at hih
    refine Ev.step (fun q => by rw [steepleref15_First.l3]) ?_
    rw [e, e2]
    clear e e2
    refine Ev.pos f0 (Ev.bnd refOne_ev (Ev.bnd (refAdd_ev 1 r) (Ev.ixS f1 ?_)))
    rw [rdR, rdR]
    exact Ev.bnd (Product_ev _ _) (Ev.ixS f2 (Ev.bnd (Product_ev r _) (Ev.bnd (refAdd_ev _ _) (Ev.pos f3 hih))))
theorem refLast_ev (X : List E) (r : E) (hX : X.length ≤ 1000000) : Ev (fun q => steepleref15_Last.f q (X.map toR) (toR r)) ((last r X).map toR) := by
  unfold steepleref15_Last.f
  rw [List.length_map, tdiv_half X.length hX]
  refine Ev.down (g := fun j q => steepleref15_Last.l4 q (X.map toR) ((X.length / 2 : Nat) : Int) (j : Int) (hi r) (lo r) ((tabL j (lastE r X)).map toR)) (n := X.length / 2) ?_ fun j hj hih => ?_
  · refine Ev.step (fun q => by rw [steepleref15_Last.l4]) ?_
    exact Ev.neg (Int.lt_irrefl _) (Ev.ret' rfl)
  · have e : wrap64 (((X.length / 2 : Nat) : Int) + (j : Int)) = ((X.length / 2 + j : Nat) : Int) := w64_add (by omega) (by omega)
    have e2 : wrap64 ((j : Int) + 1) = ((j + 1 : Nat) : Int) := w64_succ hj (by omega)
    have f0 : (j : Int) < ((X.length / 2 : Nat) : Int) := by omega
    have f1 : j < (X.map toR).length := by rw [List.length_map]; omega
    have f2 : X.length / 2 + j < (X.map toR).length := by rw [List.length_map]; omega
    have f3 : ((tabL j (lastE r X)).map toR).length + 1 ≤ 140737488355328 / 16 := by rw [List.length_map, tabL_length]; omega
    have hs : tabL (j + 1) (lastE r X) = tabL j (lastE r X) ++ [lastE r X j] := range_succM _ _
    have hx : lastE r X j = (1 + r) * X.getD j 0 + r * X.getD (X.length / 2 + j) 0 := between_eq _ _ _
    rw [hs, List.map_append, hx] at hih
    refine Ev.step (fun q => by rw [steepleref15_Last.l4]) ?_
    rw [e, e2]
    clear e e2
    refine Ev.pos f0 (Ev.bnd refOne_ev (Ev.bnd (refAdd_ev 1 r) (Ev.ixS f1 ?_)))
    rw [rdR, rdR]
    exact Ev.bnd (Product_ev _ _) (Ev.ixS f2 (Ev.bnd (Product_ev r _) (Ev.bnd (refAdd_ev _ _) (Ev.pos f3 hih))))
end Go.Proofs.Ytdpbogooceiaaaa.Sp
namespace Go.Proofs.Ytdpbogooceiaaaa.Sp
open Go.Proofs.Ytdpbogooceiaaaa.V.B Go.RowKit Go.Proofs.Ytdpbogooceiaaaa.B Go.Proofs.Ytdpbogooceiaaaa.V.B.Ar Go.Proofs.Ytdpbogooceiaaaa.V.B.Tw
set_option linter.unusedVariables false
theorem two_ev (l : Nat) (hl : l ≤ 60) : Ev (fun k => steepleref15_Two.f k (l : Int)) ((2 ^ l : Nat) : Int) := by
  unfold steepleref15_Two.f
  refine Ev.down (g := fun i k => steepleref15_Two.l3 k (l : Int) ((2 ^ i : Nat) : Int) (i : Int)) (n := l) ?_ fun i hi' hih => ?_
  · refine Ev.step (fun k => by rw [steepleref15_Two.l3]) ?_
    exact Ev.neg (Int.lt_irrefl _) (Ev.ret _)
  · refine Ev.step (fun k => by rw [steepleref15_Two.l3]) (Ev.pos (by omega) ?_)
    have hp : (2 : Nat) ^ i ≤ 2 ^ 60 := Nat.pow_le_pow_right (by decide) (by omega)
    have e : wrap64 (2 * ((2 ^ i : Nat) : Int)) = ((2 ^ (i + 1) : Nat) : Int) := by
      rw [Nat.pow_succ]
      have h60 : (2 : Nat) ^ 60 = 1152921504606846976 := by decide
      generalize 2 ^ i = p at hp ⊢
      rw [w64_id (by omega) (by omega)]; omega
    rw [e, w64_succ hi' (by omega)]
    exact hih
end Go.Proofs.Ytdpbogooceiaaaa.Sp
namespace Go.Proofs.Ytdpbogooceiaaaa.Sp
open Go.Proofs.Ytdpbogooceiaaaa.V.B Go.RowKit Go.Proofs.Ytdpbogooceiaaaa.B Go.Proofs.Ytdpbogooceiaaaa.V.B.Ar Go.Proofs.Ytdpbogooceiaaaa.V.B.Tw
set_option linter.unusedVariables false
set_option linter.unusedSimpArgs false
/-- Which turns there are. -/
def Fit (k w s : Int) : Prop := 0 ≤ k ∧ k ≤ 3 ∧ 0 ≤ w ∧ w ≤ 6 ∧ 0 ≤ s ∧ s < ((2 ^ w.toNat : Nat) : Int) ∧ (k = 0 → s = 0)
instance (k w s : Int) : Decidable (Fit k w s) := by unfold Fit; infer_instance
theorem fits_eq (q : Nat) (k w s : Int) : turn_Fits.f q k w s = some (decide (Fit k w s)) := by
  unfold turn_Fits.f
  by_cases h1 : k ≥ 0
  · rw [if_pos h1]
    by_cases h2 : k ≤ 3
    · rw [if_pos h2]
      by_cases h3 : w ≥ 0
      · rw [if_pos h3]
        by_cases h4 : w ≤ 6
        · rw [if_pos h4]
          by_cases h5 : s ≥ 0
          · rw [if_pos h5, if_pos (show 0 ≤ w from h3)]
            obtain ⟨n, rfl⟩ := Int.eq_ofNat_of_zero_le h3
            rw [shl_i64 n (by omega)]
            by_cases h6 : s < ((2 ^ n : Nat) : Int)
            · rw [if_pos h6]
              by_cases h7 : k = 0
              · rw [if_pos h7]; congr 1; rw [Bool.eq_iff_iff]; simp only [decide_eq_true_eq]
                exact ⟨fun e => ⟨h1, h2, h3, h4, h5, by simpa using h6, fun _ => e⟩, fun h => h.2.2.2.2.2.2 h7⟩
              · rw [if_neg h7]; congr 1; symm; rw [decide_eq_true_eq]
                exact ⟨h1, h2, h3, h4, h5, by simpa using h6, fun e => absurd e h7⟩
            · rw [if_neg h6]; congr 1; symm; rw [decide_eq_false_iff_not]
              intro h; exact h6 (by simpa using h.2.2.2.2.2.1)
          · rw [if_neg h5]; congr 1; symm; rw [decide_eq_false_iff_not]; intro h; exact h5 h.2.2.2.2.1
        · rw [if_neg h4]; congr 1; symm; rw [decide_eq_false_iff_not]; intro h; exact h4 h.2.2.2.1
      · rw [if_neg h3]; congr 1; symm; rw [decide_eq_false_iff_not]; intro h; exact h3 h.2.2.1
    · rw [if_neg h2]; congr 1; symm; rw [decide_eq_false_iff_not]; intro h; exact h2 h.2.1
  · rw [if_neg h1]; congr 1; symm; rw [decide_eq_false_iff_not]; intro h; exact h1 h.1
theorem fits_ev (k w s : Int) : Ev (fun q => turn_Fits.f q k w s) (decide (Fit k w s)) := ⟨0, fun q _ => fits_eq q k w s⟩
theorem refFits_ev (k w s : Int) : Ev (fun n => steepleref18_Fits.f n k w s) (decide (Fit k w s)) := by
  unfold steepleref18_Fits.f
  have no : ¬ Fit k w s → Ev (fun q => steepleref18_Fits.j2 q) (decide (Fit k w s)) := fun h => Ev.step (fun q => by rw [steepleref18_Fits.j2]) (Ev.ret' (decide_eq_false h).symm)
  refine Ev.both (fun h1 => no fun h => ?_) fun h1 => Ev.both (fun h2 => no fun h => ?_) fun h2 => Ev.both (fun h3 => no fun h => ?_) fun h3 => Ev.both (fun h4 => no fun h => ?_) fun h4 => Ev.both (fun h5 => no fun h => ?_) fun h5 => ?_
  · have := h.1; omega
  · have := h.2.1; omega
  · have := h.2.2.1; omega
  · have := h.2.2.2.1; omega
  · have := h.2.2.2.2.1; omega
  obtain ⟨n, rfl⟩ := Int.eq_ofNat_of_zero_le (show 0 ≤ w by omega)
  refine Ev.bnd (two_ev n (by omega)) (Ev.both (fun h6 => no fun h => ?_) fun h6 => Ev.both (fun h7 => Ev.ret' ?_) fun h7 => Ev.ret' ?_)
  · have h9 := h.2.2.2.2.2.1; rw [Int.toNat_natCast] at h9; omega
  · rw [decide_eq_decide]
    exact ⟨fun e => ⟨by omega, by omega, by omega, by omega, by omega, by rw [Int.toNat_natCast]; omega, fun _ => e⟩, fun h => h.2.2.2.2.2.2 h7⟩
  · symm; rw [decide_eq_true_eq]
    exact ⟨by omega, by omega, by omega, by omega, by omega, by rw [Int.toNat_natCast]; omega, fun e => absurd e h7⟩
/-- What the bit i was, in words of N bits. -/
def fromS (k N s i : Int) : Int := if k = 2 then (if i + s < N then i + s else -1) else if s ≤ i then i - s else if k = 3 then i - s + N else -1
theorem from_ev {k w s : Int} (hf : Fit k w s) (n : Nat) (hn : w = n) (i : Int) (h0 : 0 ≤ i) (h1 : i < ((2 ^ n : Nat) : Int)) : Ev (fun q => turn_From.f q k w s i) (fromS k ((2 ^ n : Nat) : Int) s i) := by
  obtain ⟨g1, g2, g3, g4, g5, g6, g7⟩ := hf
  have hfit : Fit k w s := ⟨g1, g2, g3, g4, g5, g6, g7⟩
  subst hn
  have hN := two_pow_le (w := n) (by omega)
  rw [Int.toNat_natCast] at g6
  have hs := shl_i64 n (by omega)
  have hN0 := Nat.two_pow_pos n
  generalize 2 ^ n = N at *
  unfold turn_From.f
  have e1 : wrap64 (i + s) = i + s := w64_id (by omega) (by omega)
  have e2 : wrap64 (i - s) = i - s := w64_id (by omega) (by omega)
  have e3 : wrap64 (i - s + N) = i - s + N := w64_id (by omega) (by omega)
  refine Ev.bnd (fits_ev k (n : Int) s) (Ev.nd (fun h => absurd hfit h) fun _ => Ev.neg (by omega) (Ev.pos g3 ?_))
  rw [hs, e1]
  have j7 : Ev (fun q => turn_From.j7 q k (n : Int) s i) (if k = 3 then i - s + N else -1) := by
    refine Ev.step (fun q => by rw [turn_From.j7]) (Ev.cond (fun c => Ev.pos g3 (Ev.ret' ?_)) fun c => Ev.ret _)
    rw [hs, e2, e3]
  refine Ev.neg (by omega) ?_
  unfold fromS
  by_cases c : k = 2
  · rw [if_pos c]
    refine Ev.pos c (Ev.pos g3 (Ev.cond (fun _ => Ev.ret _) fun _ => ?_))
    refine Ev.step (fun q => by rw [turn_From.j5]) (Ev.pos c (j7.eqn ?_))
    rw [if_neg (by omega)]
  · rw [if_neg c]
    refine Ev.neg c (Ev.step (fun q => by rw [turn_From.j5]) (Ev.neg c ?_))
    rw [e2]
    by_cases c2 : s ≤ i
    · rw [if_pos c2]; exact Ev.pos c2 (Ev.ret _)
    · rw [if_neg c2]; exact Ev.neg c2 j7
theorem fromS_lt {k N s i : Int} (hs0 : 0 ≤ s) (hs : s < N) (h0 : 0 ≤ i) (h1 : i < N) : fromS k N s i < N ∧ -1 ≤ fromS k N s i := by
  unfold fromS
  split
  · split <;> omega
  · split
    · omega
    · split <;> omega
/-- Was the bit i what k is? -/
def wasB (k : Int) (N s i j : Nat) : Bool := if k = 2 then decide (j = i + s) else if k = 3 then decide ((j + s) % N = i) else decide (i = j + s)
theorem was_ev (k : Int) (n s i j : Nat) (hn : n ≤ 6) (hs : s < 2 ^ n) (hi' : i < 2 ^ n) (hj : j < 2 ^ n) : Ev (fun q => steepleref18_Was.f q k (n : Int) (s : Int) (i : Int) (j : Int)) (wasB k (2 ^ n) s i j) := by
  have hN := two_pow_le (w := n) hn
  have hN0 := Nat.two_pow_pos n
  have h1 : wrap64 ((i : Int) + (s : Int)) = ((i + s : Nat) : Int) := w64_add (by omega) (by omega)
  have h2 : wrap64 ((j : Int) + (s : Int)) = ((j + s : Nat) : Int) := w64_add (by omega) (by omega)
  unfold steepleref18_Was.f wasB
  refine Ev.bnd (two_ev n (by omega)) ?_
  rw [h1, h2]
  refine Ev.cond (fun _ => Ev.ret' ?_) fun _ => Ev.cond (fun _ => Ev.neg (by omega) (Ev.ret' ?_)) fun _ => Ev.ret' ?_
  · rw [decide_eq_decide]; omega
  · rw [decide_eq_decide, ← Int.ofNat_tmod]; omega
  · rw [decide_eq_decide]; omega
theorem from_was {k : Int} {N s i j : Nat} (hs : s < N) (hi' : i < N) (hj : j < N) : fromS k (N : Int) (s : Int) (i : Int) = (j : Int) ↔ wasB k N s i j = true := by
  unfold fromS wasB
  by_cases c : k = 2
  · rw [if_pos c, if_pos c, decide_eq_true_eq]
    split <;> omega
  rw [if_neg c, if_neg c]
  by_cases c3 : k = 3
  · rw [if_pos c3, if_pos c3, decide_eq_true_eq]
    by_cases g : j + s < N
    · rw [Nat.mod_eq_of_lt g]; split <;> omega
    · rw [Nat.mod_eq_sub_mod (by omega), Nat.mod_eq_of_lt (by omega)]; split <;> omega
  · rw [if_neg c3, if_neg c3, decide_eq_true_eq]
    split <;> omega
end Go.Proofs.Ytdpbogooceiaaaa.Sp
namespace Go.Proofs.Ytdpbogooceiaaaa.Sp
open Go.Proofs.Ytdpbogooceiaaaa.V.B Go.RowKit Go.Proofs.Ytdpbogooceiaaaa.B Go.Proofs.Ytdpbogooceiaaaa.V.B.Ar Go.Proofs.Ytdpbogooceiaaaa.V.B.Tw
set_option linter.unusedVariables false
def weightsL (P : List E) : List E := tabL (2 ^ P.length) (weight P)
theorem tabL_append (m n : Nat) (f g : Nat → E) : tabL m f ++ tabL n g = tabL (m + n) (fun i => if i < m then f i else g (i - m)) := by
  apply ext_getD
  · rw [List.length_append, tabL_length, tabL_length, tabL_length]
  · intro i hi
    rw [List.length_append, tabL_length, tabL_length] at hi
    rw [tabL_getD (m + n) _ i hi, List.getD_eq_getElem?_getD]
    by_cases c : i < m
    · rw [if_pos c, List.getElem?_append_left (by rw [tabL_length]; exact c), ← List.getD_eq_getElem?_getD, tabL_getD m f i c]
    · rw [if_neg c, List.getElem?_append_right (by rw [tabL_length]; omega), tabL_length, ← List.getD_eq_getElem?_getD, tabL_getD n g (i - m) (by omega)]
theorem weightsL_snoc (P : List E) (p : E) : tabL (2 ^ P.length) (fun i => weight P i + weight P i * p) ++ tabL (2 ^ P.length) (fun i => weight P i * p) = weightsL (P ++ [p]) := by
  unfold weightsL
  rw [tabL_append, List.length_append, List.length_singleton, Nat.pow_succ, Nat.mul_two]
  apply tabL_congr
  intro i hi
  by_cases c : i < 2 ^ P.length
  · rw [if_pos c, weight_low p P i c, mul_add, mul_one]
  · rw [if_neg c]
    have := weight_up p P (i - 2 ^ P.length) (by omega)
    rw [show 2 ^ P.length + (i - 2 ^ P.length) = i by omega] at this
    exact this.symm
theorem pickd_at (i : Nat) (y : E) : pick (decide (i < i)) y = 0 := by rw [decide_eq_false (Nat.lt_irrefl i), pick_false]
theorem pickd_now (i : Nat) (y : E) : pick (decide (i < i + 1)) y = y := by rw [decide_eq_true (Nat.lt_succ_self i), pick_true]
theorem pickd_next (i k : Nat) (y : E) (h : k ≠ i) : pick (decide (k < i + 1)) y = pick (decide (k < i)) y := by
  have : decide (k < i + 1) = decide (k < i) := by rw [decide_eq_decide]; omega
  rw [this]
theorem pickd_in (n k : Nat) (y : E) (h : k < n) : pick (decide (k < n)) y = y := by rw [decide_eq_true h, pick_true]
theorem pickd_zero (k : Nat) (y : E) : pick (decide (k < 0)) y = 0 := by rw [decide_eq_false (Nat.not_lt_zero k), pick_false]
theorem weights_l1 {l : Nat} (hl : l ≤ 7) (n : Nat) (hn : n ≤ 1000000) (w : Nat → E) (hw : ∀ i, i < n → InL l (w i)) (x : E) (hx : InL l x) (PS : List S38) (m j : Int) {R : List S38}
    (h : Ev (fun q => cube_Weights.l5 q (l : Int) PS m (wrap64 (j + 1)) ((tabL n (fun i => w i + w i * x) ++ tabL n (fun i => w i * x)).map toS)) R) :
    ∀ (d i : Nat), i + d = n → Ev (fun q => cube_Weights.l9 q (l : Int) PS m j (n : Int) (i : Int) ((tabL n (fun k => w k + pick (decide (k < i)) (w k * x))).map toS) (hi x) (lo x) ((tabL n (fun k => pick (decide (k < i)) (w k * x))).map toS)) R := by
  intro d
  induction d with
  | zero =>
    intro i hid
    have : i = n := by omega
    subst this
    refine Ev.step (fun q => by rw [cube_Weights.l9]) (Ev.neg (Int.lt_irrefl _) ?_)
    have e1 : tabL i (fun k => w k + pick (decide (k < i)) (w k * x)) = tabL i (fun k => w k + w k * x) := tabL_congr _ (fun k hk => by rw [pickd_in i k _ hk])
    have e2 : tabL i (fun k => pick (decide (k < i)) (w k * x)) = tabL i (fun k => w k * x) := tabL_congr _ (fun k hk => pickd_in i k _ hk)
    rw [e1, e2]
    refine Ev.pos (by rw [List.length_map, List.length_map, tabL_length, tabL_length]; omega) ?_
    rw [← List.map_append]
    exact h
  | succ d ih =>
    intro i hid
    have hi' : i < n := by omega
    have hih := ih (i + 1) (by omega)
    have g1 : (tabL n (fun k => w k + pick (decide (k < i)) (w k * x))).getD i 0 = w i := by rw [tabL_getD _ _ i hi', pickd_at, add_zero]
    have c3 : (i : Int) < (((tabL n (fun k => w k + pick (decide (k < i)) (w k * x))).map toS).length : Int) := by rw [List.length_map, tabL_length]; omega
    have c4 : (i : Int) < (((tabL n (fun k => pick (decide (k < i)) (w k * x))).map toS).length : Int) := by rw [List.length_map, tabL_length]; omega
    have eu : ((tabL n (fun k => pick (decide (k < i)) (w k * x))).map toS).set (i : Int).toNat (toS (w i * x)) = (tabL n (fun k => pick (decide (k < i + 1)) (w k * x))).map toS := by
      rw [Int.toNat_natCast, map_set]
      have hn2 := pickd_now i (w i * x)
      conv => lhs; rw [← hn2]
      rw [tabL_set n _ (fun k => pick (decide (k < i + 1)) (w k * x)) i hi' (fun k _ hne => pickd_next i k _ hne)]
    have eo : ((tabL n (fun k => w k + pick (decide (k < i)) (w k * x))).map toS).set (i : Int).toNat (toS (w i + w i * x)) = (tabL n (fun k => w k + pick (decide (k < i + 1)) (w k * x))).map toS := by
      rw [Int.toNat_natCast, map_set]
      have hn2 := pickd_now i (w i * x)
      conv => lhs; rw [← hn2]
      rw [tabL_set n _ (fun k => w k + pick (decide (k < i + 1)) (w k * x)) i hi' (fun k _ hne => by show w k + _ = w k + _; rw [pickd_next i k _ hne])]
    have g2 : (tabL n (fun k => pick (decide (k < i + 1)) (w k * x))).getD i 0 = w i * x := by rw [tabL_getD _ _ i hi', pickd_now]
    refine Ev.step (fun q => by rw [cube_Weights.l9]) (Ev.pos (by omega) (Ev.pos (Int.natCast_nonneg _) (Ev.pos c3 ?_)))
    simp only [rdS, g1, toS_f0, toS_f1]
    refine Ev.bnd (Mul_ev hl (hw i hi') hx) (Ev.pos (Int.natCast_nonneg _) (Ev.pos c4 (Ev.pos (Int.natCast_nonneg _) (Ev.pos (by rw [List.length_set]; exact c4) ?_))))
    simp only [eu, rdS, g2]
    refine Ev.bnd (Add_ev _ _) (Ev.pos (Int.natCast_nonneg _) (Ev.pos c3 ?_))
    simp only [eo, w64_succ hi' (show n ≤ 4611686018427387904 by omega)]
    exact hih
theorem inL_all {l : Nat} {P : List E} (h : AllS (l : Int) P) : ∀ p ∈ P, InL l p := fun p hp => inL_of (h p hp)
theorem weights_l0 {l : Nat} (hl : l ≤ 7) (P : List E) (hP : AllS (l : Int) P) (hPl : P.length ≤ 16) : ∀ (d j : Nat), j + d = P.length →
    Ev (fun q => cube_Weights.l5 q (l : Int) (P.map toS) (P.length : Int) (j : Int) ((weightsL (P.take j)).map toS)) ((weightsL P).map toS) := by
  intro d
  induction d with
  | zero =>
    intro j hj
    have : j = P.length := by omega
    subst this
    rw [List.take_length]
    exact Ev.step (fun q => by rw [cube_Weights.l5]) (Ev.neg (Int.lt_irrefl _) (Ev.ret _))
  | succ d ih =>
    intro j hj
    have hj' : j < P.length := by omega
    have hih := ih (j + 1) (by omega)
    have htl : (P.take j).length = j := by rw [List.length_take]; omega
    have hp16 : 2 ^ j ≤ 2 ^ 16 := Nat.pow_le_pow_right (by decide) (by omega)
    have hwl : (weightsL (P.take j)).length = 2 ^ j := by unfold weightsL; rw [tabL_length, htl]
    have hg : P.getD j 0 = P[j] := by rw [List.getD_eq_getElem?_getD, List.getElem?_eq_getElem hj']; rfl
    rw [List.take_succ_eq_append_getElem hj', ← hg, ← weightsL_snoc, htl] at hih
    refine Ev.step (fun q => by rw [cube_Weights.l5]) (Ev.pos (by omega) (Ev.pos (Int.natCast_nonneg _) (Ev.pos (by rw [List.length_map]; omega) ?_)))
    rw [List.length_map, hwl]
    refine Ev.pos (Int.natCast_nonneg _) (Ev.pos (by omega) ?_)
    simp only [rdS, toS_f0, toS_f1]
    have e0 : weightsL (P.take j) = tabL (2 ^ j) (fun k => weight (P.take j) k + pick (decide (k < 0)) (weight (P.take j) k * P.getD j 0)) := by
      unfold weightsL; rw [htl]
      exact tabL_congr _ (fun k _ => by rw [pickd_zero, add_zero])
    have e1 : List.replicate ((2 ^ j : Nat) : Int).toNat z38 = (tabL (2 ^ j) (fun k => pick (decide (k < 0)) (weight (P.take j) k * P.getD j 0))).map toS := by
      rw [Int.toNat_natCast, rep_zero, tabL_replicate]
      exact congrArg (List.map toS) (tabL_congr _ (fun k _ => (pickd_zero _ _).symm))
    rw [e0, e1]
    refine weights_l1 hl (2 ^ j) (by omega) (weight (P.take j)) (fun i _ => weight_in hl _ i (fun p hp => inL_all hP p (List.mem_of_mem_take hp))) (P.getD j 0) (allS_getD hP j) _ _ _ ?_ (2 ^ j) 0 (Nat.zero_add _)
    rw [w64_succ hj' (show P.length ≤ 4611686018427387904 by omega)]
    exact hih
/-- The weights, or nothing. -/
def weightsO (L : Int) (P : List E) : List E := if LvS L ∧ P.length ≤ 16 ∧ AllS L P then weightsL P else []
theorem Weights_ev (L : Int) (P : List E) : Ev (fun q => cube_Weights.f q L (P.map toS)) ((weightsO L P).map toS) := by
  have hT : ¬ (LvS L ∧ P.length ≤ 16 ∧ AllS L P) → weightsO L P = [] := fun h => if_neg h
  unfold cube_Weights.f
  rw [List.length_map]
  by_cases hL : LvS L
  rotate_left
  · exact Ev.bnd (wide_out hL) (Ev.pos rfl (Ev.ret' (by rw [hT fun h => hL h.1]; rfl)))
  obtain ⟨v, hv, hw⟩ := wide_in hL
  refine Ev.bnd hw (Ev.neg hv ?_)
  by_cases hl : (P.length : Int) > 16
  · exact Ev.pos hl (Ev.ret' (by rw [hT fun h => by have := h.2.1; omega]; rfl))
  refine Ev.neg hl (Ev.bnd (cube_of_ev L P (by omega)) ?_)
  by_cases hA : AllS L P
  rotate_left
  · rw [decide_eq_false hA]; exact Ev.pos rfl (Ev.ret' (by rw [hT fun h => hA h.2.2]; rfl))
  rw [decide_eq_true hA]
  have e : weightsO L P = weightsL P := if_pos ⟨hL, by omega, hA⟩
  rw [e]
  obtain ⟨l, rfl⟩ := Int.eq_ofNat_of_zero_le hL.1
  refine Ev.neg (by decide) (Ev.bnd One_ev ?_)
  have := weights_l0 (by have := hL.2; omega) P hA (by omega) P.length 0 (Nat.zero_add _)
  have e0 : (weightsL (P.take 0)).map toS = [toS 1] := rfl
  rw [e0] at this
  exact this
end Go.Proofs.Ytdpbogooceiaaaa.Sp
namespace Go.Proofs.Ytdpbogooceiaaaa.Sp
open Go.Proofs.Ytdpbogooceiaaaa.V.B Go.RowKit Go.Proofs.Ytdpbogooceiaaaa.B Go.Proofs.Ytdpbogooceiaaaa.V.B.Ar Go.Proofs.Ytdpbogooceiaaaa.V.B.Tw
set_option linter.unusedVariables false
set_option linter.unusedSimpArgs false
/-- A corner's weight in one variable. -/
def wt (p : E) (b : Nat) : E := if b = 1 then p else p + 1
/-- The weights of corners i of j bits and what becomes of them, s more, with carry c. -/
def sumF (A B : List E) (s c j i : Nat) : E := pick (decide ((i + s % 2 ^ j) / 2 ^ j = c)) (weight (A.take j) i * weight (B.take j) ((i + s % 2 ^ j) % 2 ^ j))
def sumS (A B : List E) (s c j : Nat) : E := sumN (sumF A B s c j) (2 ^ j)
theorem take_snoc (A : List E) (j : Nat) (h : j < A.length) : A.take (j + 1) = A.take j ++ [A.getD j 0] := by
  rw [List.take_succ_eq_append_getElem h, List.getD_eq_getElem?_getD, List.getElem?_eq_getElem h]; rfl
theorem weight_bit (A : List E) (j : Nat) (h : j < A.length) (k b : Nat) (hk : k < 2 ^ j) (hb : b < 2) : weight (A.take (j + 1)) (k + 2 ^ j * b) = weight (A.take j) k * wt (A.getD j 0) b := by
  have hl : (A.take j).length = j := by rw [List.length_take]; omega
  rw [take_snoc A j h]
  have e : b = 0 ∨ b = 1 := by omega
  rcases e with rfl | rfl
  · rw [Nat.mul_zero, Nat.add_zero, weight_low _ _ _ (by rw [hl]; exact hk)]
    unfold wt; rw [if_neg (by decide), add_comm 1]
  · have := weight_up (A.getD j 0) (A.take j) k (by rw [hl]; exact hk)
    rw [hl] at this
    rw [Nat.mul_one, Nat.add_comm, this]
    unfold wt; rw [if_pos rfl]
theorem shift_div (k q j : Nat) (hk : k < 2 ^ j) : (k + 2 ^ j * q) / 2 ^ (j + 1) = q / 2 ∧ (k + 2 ^ j * q) % 2 ^ (j + 1) = k + 2 ^ j * (q % 2) := by
  have hp := Nat.two_pow_pos j
  have h1 : (k + 2 ^ j * q) / 2 ^ j = q := by rw [Nat.add_mul_div_left _ _ hp, Nat.div_eq_of_lt hk, Nat.zero_add]
  have h2 : (k + 2 ^ j * q) % 2 ^ j = k := by rw [Nat.add_mul_mod_self_left, Nat.mod_eq_of_lt hk]
  refine ⟨by rw [Nat.pow_succ, ← Nat.div_div_eq_div_mul, h1], ?_⟩
  rw [Nat.pow_succ, Nat.mod_mul, h1, h2]
theorem pick_two (c : Nat) (hc : c < 2) (f : Nat → E) : f c = pick (decide (c = 0)) (f 0) + pick (decide (c = 1)) (f 1) := by
  have e : c = 0 ∨ c = 1 := by omega
  rcases e with rfl | rfl
  · rw [decide_eq_true rfl, decide_eq_false (by decide), pick_true, pick_false, add_zero]
  · rw [decide_eq_true rfl, decide_eq_false (by decide), pick_true, pick_false, zero_add]
/-- What one pair of a bit and a carry gives. -/
def termS (A B : List E) (s d j m : Nat) : E := pick (decide ((m % 2 + s / 2 ^ j % 2 + m / 2) / 2 = d)) (sumS A B s (m / 2) j * (wt (A.getD j 0) (m % 2) * wt (B.getD j 0) ((m % 2 + s / 2 ^ j % 2 + m / 2) % 2)))
theorem sumS_half (A B : List E) (s d j bit : Nat) (hb : bit < 2) (hA : j < A.length) (hB : j < B.length) :
    sumN (fun i => sumF A B s d (j + 1) (2 ^ j * bit + i)) (2 ^ j) = termS A B s d j bit + termS A B s d j (2 + bit) := by
  have hp := Nat.two_pow_pos j
  have hbm : bit % 2 = bit ∧ bit / 2 = 0 ∧ (2 + bit) % 2 = bit ∧ (2 + bit) / 2 = 1 := by omega
  unfold termS
  rw [hbm.1, hbm.2.1, hbm.2.2.1, hbm.2.2.2]
  unfold sumS
  rw [← sumN_mulr, ← sumN_mulr, pick_sum, pick_sum, ← sumN_add]
  apply sumN_congr
  intro i hi'
  have hk : (i + s % 2 ^ j) % 2 ^ j < 2 ^ j := Nat.mod_lt _ hp
  have hc : (i + s % 2 ^ j) / 2 ^ j < 2 := by
    rw [Nat.div_lt_iff_lt_mul hp]
    have := Nat.mod_lt s hp
    omega
  have hs : s % 2 ^ (j + 1) = s % 2 ^ j + 2 ^ j * (s / 2 ^ j % 2) := Nat.mod_pow_succ
  have ht : 2 ^ j * bit + i + s % 2 ^ (j + 1) = (i + s % 2 ^ j) % 2 ^ j + 2 ^ j * ((i + s % 2 ^ j) / 2 ^ j + bit + s / 2 ^ j % 2) := by
    have := Nat.mod_add_div (i + s % 2 ^ j) (2 ^ j)
    rw [hs, Nat.mul_add, Nat.mul_add]
    omega
  have hd := shift_div _ ((i + s % 2 ^ j) / 2 ^ j + bit + s / 2 ^ j % 2) j hk
  rw [← ht] at hd
  unfold sumF
  rw [hd.1, hd.2, Nat.add_comm (2 ^ j * bit) i, weight_bit A j hA i bit hi' hb, weight_bit B j hB _ _ hk (Nat.mod_lt _ (by decide))]
  generalize weight (A.take j) i = x
  generalize weight (B.take j) ((i + s % 2 ^ j) % 2 ^ j) = y
  generalize (i + s % 2 ^ j) / 2 ^ j = c at hc
  generalize s / 2 ^ j % 2 = g
  rw [pick_two c hc (fun c => pick (decide ((c + bit + g) / 2 = d)) (x * wt (A.getD j 0) bit * (y * wt (B.getD j 0) ((c + bit + g) % 2))))]
  have e0 : 0 + bit + g = bit + g + 0 := by omega
  have e1 : 1 + bit + g = bit + g + 1 := by omega
  have em : ∀ u v : E, x * u * (y * v) = x * y * (u * v) := fun u v => by rw [mul_assoc, mul_assoc, mul_left_comm u]
  have p : ∀ (b1 b2 : Bool) (u v : E), pick b1 (pick b2 (u * v)) = pick b2 (pick b1 u * v) := fun b1 b2 u v => by rw [pick_comm, pick_mul]
  rw [e0, e1, em, em, p, p]
theorem sumS_step (A B : List E) (s d j : Nat) (hA : j < A.length) (hB : j < B.length) : sumS A B s d (j + 1) = sumN (termS A B s d j) 4 := by
  have h0 := sumS_half A B s d j 0 (by decide) hA hB
  have h1 := sumS_half A B s d j 1 (by decide) hA hB
  have e : (2 : Nat) ^ (j + 1) = 2 ^ j + 2 ^ j := by rw [Nat.pow_succ]; omega
  have hu : sumS A B s d (j + 1) = sumN (sumF A B s d (j + 1)) (2 ^ (j + 1)) := rfl
  rw [hu, e, sumN_split]
  simp only [Nat.mul_zero, Nat.zero_add, Nat.mul_one] at h0 h1
  rw [h0, h1]
  show _ = sumN _ (0 + 1 + 1 + 1 + 1)
  simp only [sumN, zero_add, Nat.zero_add, Nat.add_zero, Nat.reduceAdd]
  rw [add_assoc, add_assoc, add_assoc, add_left_comm (termS A B s d j 2)]
theorem sumS_zero (A B : List E) (s c : Nat) : sumS A B s c 0 = pick (decide (c = 0)) 1 := by
  show sumN (sumF A B s c 0) (0 + 1) = _
  rw [sumN, sumN, zero_add]
  unfold sumF
  have h1 : (0 + s % 2 ^ 0) / 2 ^ 0 = 0 := by rw [Nat.pow_zero, Nat.mod_one]
  have h2 : (0 + s % 2 ^ 0) % 2 ^ 0 = 0 := by rw [Nat.pow_zero, Nat.mod_one]
  have h3 : (decide (0 = c)) = decide (c = 0) := by rw [decide_eq_decide]; exact eq_comm
  rw [h1, h2, h3, List.take_zero, List.take_zero]
  show pick _ ((1 : E) * 1) = _
  rw [mul_one]
/-- The sign at two points, as the document tells it. -/
def signX (k : Int) (N s : Nat) (X Y : List E) : E := sumN (fun i => sumN (fun j => pick (wasB k N s i j) (weight X i * weight Y j)) N) N
def signAt (k : Int) (N s : Nat) (X : List E) (j : Nat) : E := sumN (fun i => pick (wasB k N s i j) (weight X i)) N
theorem sumS_end (A B : List E) (s c n : Nat) (hA : A.length = n) (hB : B.length = n) (hs : s < 2 ^ n) : sumS A B s c n = sumN (fun i => pick (decide ((i + s) / 2 ^ n = c)) (weight A i * weight B ((i + s) % 2 ^ n))) (2 ^ n) := by
  unfold sumS
  apply sumN_congr
  intro i _
  unfold sumF
  rw [Nat.mod_eq_of_lt hs, List.take_of_length_le (by omega), List.take_of_length_le (by omega)]
theorem sum_at (N a : Nat) (f : Nat → E) (h : a < N) : sumN (fun j => pick (decide (j = a)) (f j)) N = f a := by
  rw [sumN_one (fun j => pick (decide (j = a)) (f j)) N a h (fun j _ hne => by
    show pick (decide (j = a)) (f j) = 0
    rw [decide_eq_false hne, pick_false])]
  show pick (decide (a = a)) (f a) = f a
  rw [decide_eq_true rfl, pick_true]
theorem sum_none (N : Nat) (f : Nat → E) (h : ∀ j, j < N → f j = 0) : sumN f N = 0 := by
  rw [sumN_congr N h, sumN_zero]
/-- i + s = j: without a carry. -/
theorem sum_plus (A B : List E) (s n : Nat) (hA : A.length = n) (hB : B.length = n) (hs : s < 2 ^ n) : sumS A B s 0 n = sumN (fun i => sumN (fun j => pick (decide (j = i + s)) (weight A i * weight B j)) (2 ^ n)) (2 ^ n) := by
  rw [sumS_end A B s 0 n hA hB hs]
  apply sumN_congr
  intro i hi'
  have hp := Nat.two_pow_pos n
  by_cases c : i + s < 2 ^ n
  · rw [Nat.div_eq_of_lt c, Nat.mod_eq_of_lt c, decide_eq_true rfl, pick_true, sum_at (2 ^ n) (i + s) (fun j => weight A i * weight B j) c]
  · have h1 : ¬ (i + s) / 2 ^ n = 0 := fun h => by rw [Nat.div_eq_zero_iff] at h; omega
    rw [decide_eq_false h1, pick_false, sum_none]
    intro j hj
    rw [decide_eq_false (by omega), pick_false]
theorem sum_round (A B : List E) (s n : Nat) (hA : A.length = n) (hB : B.length = n) (hs : s < 2 ^ n) : sumS A B s 0 n + sumS A B s 1 n = sumN (fun i => sumN (fun j => pick (decide ((i + s) % 2 ^ n = j)) (weight A i * weight B j)) (2 ^ n)) (2 ^ n) := by
  rw [sumS_end A B s 0 n hA hB hs, sumS_end A B s 1 n hA hB hs, ← sumN_add]
  apply sumN_congr
  intro i hi'
  have hp := Nat.two_pow_pos n
  have hc : (i + s) / 2 ^ n < 2 := by rw [Nat.div_lt_iff_lt_mul hp]; omega
  rw [← pick_two _ hc (fun _ => weight A i * weight B ((i + s) % 2 ^ n))]
  have e : ∀ j, (decide ((i + s) % 2 ^ n = j)) = decide (j = (i + s) % 2 ^ n) := fun j => by rw [decide_eq_decide]; exact eq_comm
  simp only [e]
  exact (sum_at (2 ^ n) _ (fun j => weight A i * weight B j) (Nat.mod_lt _ hp)).symm
/-- What the program sums, by the kind of turn. -/
def signP (k : Int) (s n : Nat) (X Y : List E) : E := if k = 2 then sumS X Y s 0 n else if k = 3 then sumS Y X s 0 n + sumS Y X s 1 n else sumS Y X s 0 n
theorem signP_eq (k : Int) (s n : Nat) (X Y : List E) (hX : X.length = n) (hY : Y.length = n) (hs : s < 2 ^ n) : signP k s n X Y = signX k (2 ^ n) s X Y := by
  unfold signP signX wasB
  by_cases c : k = 2
  · rw [if_pos c, sum_plus X Y s n hX hY hs]
    simp only [if_pos c]
  rw [if_neg c]
  simp only [if_neg c]
  by_cases c3 : k = 3
  · rw [if_pos c3, sum_round Y X s n hY hX hs, sumN_swap]
    simp only [if_pos c3]
    exact sumN_congr _ fun i _ => sumN_congr _ fun j _ => by rw [mul_comm (weight X i)]
  · rw [if_neg c3, sum_plus Y X s n hY hX hs, sumN_swap]
    simp only [if_neg c3]
    exact sumN_congr _ fun i _ => sumN_congr _ fun j _ => by rw [mul_comm (weight X i)]
end Go.Proofs.Ytdpbogooceiaaaa.Sp
namespace Go.Proofs.Ytdpbogooceiaaaa.Sp
open Go.Proofs.Ytdpbogooceiaaaa.V.B Go.RowKit Go.Proofs.Ytdpbogooceiaaaa.B Go.Proofs.Ytdpbogooceiaaaa.V.B.Ar Go.Proofs.Ytdpbogooceiaaaa.V.B.Tw
set_option linter.unusedVariables false
set_option linter.unusedSimpArgs false
theorem Ev.at {α : Type} {g : Nat → Option α} {r : α} (K : Nat) (h : ∀ k, g (k + K) = some r) : Ev g r := ⟨K, fun k hk => by
  obtain ⟨m, rfl⟩ := Nat.exists_eq_add_of_le' hk
  exact h m⟩
theorem awake18_ev : Ev (fun k => steeplelaw18_awake.f k) true := Ev.at 40 fun k => by kernel_rfl
def pointE (L : Int) (w : Int) (X : List E) : Int := if (X.length : Int) = w then (if AllS L X then 0 else 5) else 6
theorem point_ev (L w : Int) (X : List E) (hX : X.length ≤ 4611686018427387904) : Ev (fun k => turn_point.f k L w (X.map toS)) (pointE L w X) := by
  have hp : ∀ x, Ev (fun k => turn_point_1.f k (toS x) (some L)) (decide (¬ OfS L x)) := fun x => Ev.bnd (of_ev L x) (Ev.ret' (by rw [decide_not]))
  obtain ⟨r, h1, h2⟩ := index_gen (P := OfS L) (l := fun k xs a n i => slices_IndexFunc159_c127.l2 k xs a n i) (p := turn_point_1.f) (fun k xs n i => by rw [slices_IndexFunc159_c127.l2]) hp X hX X.length 0 (by omega)
  have h2 : r ≥ 0 ↔ ¬ AllS L X := h2
  unfold turn_point.f pointE
  rw [List.length_map]
  refine Ev.cond (fun c => ?_) fun c => Ev.ret _
  unfold slices_ContainsFunc126_c127.f slices_IndexFunc159_c127.f
  rw [List.length_map]
  refine Ev.bnd (Ev.bnd h1 (Ev.ret _)) (Ev.both (fun g => Ev.ret' ?_) fun g => Ev.ret' ?_)
  · rw [if_neg (h2.1 (of_decide_eq_true g))]
  · by_cases a : AllS L X
    · rw [if_pos a]
    · exact absurd (decide_eq_true (h2.2 a)) g
theorem turnWeight_ev (x : E) (b : Nat) : Ev (fun k => turn_weight.f k (toS x) (b : Int)) (toS (wt x b)) := by
  unfold turn_weight.f wt
  refine Ev.both (fun c => Ev.ret' ?_) fun c => Ev.bnd One_ev (Ev.bnd (Add_ev _ _) (Ev.ret' ?_))
  · rw [if_pos (by omega)]
  · rw [if_neg (by omega)]
theorem and1 (n : Nat) (h : n < 2 ^ 63) : Go.bits .and .i64 (n : Int) 1 = ((n % 2 : Nat) : Int) := by
  have h1 := and_one n 0 h (by decide)
  rw [shr_i64 n 0 (by decide), Nat.pow_zero, Nat.div_one] at h1
  exact h1
theorem wt_in {l : Nat} {x : E} (b : Nat) (h : InL l x) : InL l (wt x b) := by
  unfold wt
  split
  · exact h
  · exact inL_add h (inL_one l)
theorem sumS_in {l : Nat} (hl : l ≤ 7) {A B : List E} (hA : AllS (l : Int) A) (hB : AllS (l : Int) B) (s c j : Nat) : InL l (sumS A B s c j) :=
  sumN_in _ _ fun i _ => pick_in _ (inL_mul hl (weight_in hl _ _ fun p hp => inL_all hA p (List.mem_of_mem_take hp)) (weight_in hl _ _ fun p hp => inL_all hB p (List.mem_of_mem_take hp)))
theorem sum_arith (m s j : Nat) (hm : m < 4) (hs : s < 2 ^ 63) (hj : j ≤ 60) : Go.bits .and .i64 (m : Int) 1 = ((m % 2 : Nat) : Int) ∧ Go.bits .and .i64 (shr .i64 (s : Int) (j : Int)) 1 = ((s / 2 ^ j % 2 : Nat) : Int) ∧ shr .i64 (m : Int) 1 = ((m / 2 : Nat) : Int) ∧ wrap64 ((wrap64 (((m % 2 : Nat) : Int) + ((s / 2 ^ j % 2 : Nat) : Int))) + ((m / 2 : Nat) : Int)) = ((m % 2 + s / 2 ^ j % 2 + m / 2 : Nat) : Int) ∧ wrap64 ((m : Int) + 1) = ((m + 1 : Nat) : Int) := by
  have hg := Nat.mod_lt (s / 2 ^ j) (show 0 < 2 by decide)
  refine ⟨and1 m (by omega), and_one s j hs (by omega), shr_i64 m 1 (by decide), ?_, w64_succ hm (by decide)⟩
  generalize s / 2 ^ j % 2 = g at hg
  rw [w64_add (i := m % 2) (j := g) (by omega) (by omega), w64_add (by omega) (by omega)]
theorem sum_arith2 (q : Nat) (hq : q ≤ 3) : Go.bits .and .i64 (q : Int) 1 = ((q % 2 : Nat) : Int) ∧ shr .i64 (q : Int) 1 = ((q / 2 : Nat) : Int) := ⟨and1 q (by omega), shr_i64 q 1 (by decide)⟩
theorem sums_l7 {l : Nat} (hl : l ≤ 7) (A B : List E) (hA : AllS (l : Int) A) (hB : AllS (l : Int) B) (s j : Nat) (hs : s < 2 ^ 63) (hjA : j < A.length) (hjB : j < B.length) (hjm : j ≤ 60) (n : Int) {R : List S38}
    (h : Ev (fun k => turn_sums.l3 k (l : Int) (s : Int) (A.map toS) (B.map toS) n (wrap64 ((j : Int) + 1)) (List.replicate 2 z38) ((tabL 2 (fun d => sumS A B s d (j + 1))).map toS)) R) :
    Ev (fun k => turn_sums.l7 k (l : Int) (s : Int) (A.map toS) (B.map toS) (j : Int) n (j : Int) 0 (List.replicate 2 z38) ((tabL 2 (fun d => sumS A B s d j)).map toS) (List.replicate 2 z38)) R := by
  have e0 : List.replicate 2 z38 = (tabL 2 (fun d => sumN (termS A B s d j) 0)).map toS := by rw [rep_zero, tabL_replicate]; rfl
  have go : Ev (fun k => turn_sums.l7 k (l : Int) (s : Int) (A.map toS) (B.map toS) (j : Int) n (j : Int) ((0 : Nat) : Int) (List.replicate 2 z38) ((tabL 2 (fun d => sumS A B s d j)).map toS) ((tabL 2 (fun d => sumN (termS A B s d j) 0)).map toS)) R := by
    refine Ev.down (g := fun m k => turn_sums.l7 k (l : Int) (s : Int) (A.map toS) (B.map toS) (j : Int) n (j : Int) (m : Int) (List.replicate 2 z38) ((tabL 2 (fun d => sumS A B s d j)).map toS) ((tabL 2 (fun d => sumN (termS A B s d j) m)).map toS)) (n := 4) ?_ fun m hm hih => ?_
    · refine Ev.step (fun k => by rw [turn_sums.l7]) (Ev.neg (by decide) ?_)
      have e : tabL 2 (fun d => sumN (termS A B s d j) 4) = tabL 2 (fun d => sumS A B s d (j + 1)) := tabL_congr _ fun d _ => (sumS_step A B s d j hjA hjB).symm
      rw [e]
      exact h
    · have hg := Nat.mod_lt (s / 2 ^ j) (show 0 < 2 by decide)
      have hterm : ∀ d, sumN (termS A B s d j) (m + 1) = sumN (termS A B s d j) m + termS A B s d j m := fun d => rfl
      have ht : ∀ d, termS A B s d j m = pick (decide ((m % 2 + s / 2 ^ j % 2 + m / 2) / 2 = d)) (sumS A B s (m / 2) j * (wt (A.getD j 0) (m % 2) * wt (B.getD j 0) ((m % 2 + s / 2 ^ j % 2 + m / 2) % 2))) := fun d => rfl
      have hq3 : m % 2 + s / 2 ^ j % 2 + m / 2 ≤ 3 := by omega
      have c1 : (m : Int) < 4 := by omega
      have c2 : j < (A.map toS).length := by rw [List.length_map]; exact hjA
      have c3 : j < (B.map toS).length := by rw [List.length_map]; exact hjB
      have c5 : m / 2 < 2 := by omega
      obtain ⟨a1, a2, a3, a4, hs4⟩ := sum_arith m s j hm hs hjm
      generalize m % 2 + s / 2 ^ j % 2 + m / 2 = q at a4 ht hq3
      have c4 : q / 2 < 2 := by clear a1 a2 a3 a4 hs4; omega
      obtain ⟨a5, a6⟩ := sum_arith2 q hq3
      refine Ev.step (fun k => by rw [turn_sums.l7]) ?_
      rw [a1, a2, a3, a4, a5, a6, hs4]
      refine Ev.pos c1 (Ev.pos (Int.natCast_nonneg _) (Ev.ixS c2 ?_))
      rw [rdS, rdS, rdS, rdS, tabL_getD _ _ (m / 2) c5, tabL_getD _ _ (q / 2) c4]
      refine Ev.bnd (turnWeight_ev _ _) (Ev.ixS c3 (Ev.bnd (turnWeight_ev _ _) (Ev.bnd (Mul_ev hl (wt_in _ (allS_getD hA j)) (wt_in _ (allS_getD hB j))) (Ev.ix c4 (Ev.ix c5 ?_)))))
      refine Ev.bnd (Mul_ev hl (sumS_in hl hA hB s (m / 2) j) (inL_mul hl (wt_in _ (allS_getD hA j)) (wt_in _ (allS_getD hB j)))) (Ev.bnd (Add_ev _ _) (Ev.ix c4 ?_))
      rw [Int.toNat_natCast, map_set]
      have e : (tabL 2 (fun d => sumN (termS A B s d j) m)).set (q / 2) (sumN (termS A B s (q / 2) j) m + sumS A B s (m / 2) j * (wt (A.getD j 0) (m % 2) * wt (B.getD j 0) (q % 2))) = tabL 2 (fun d => sumN (termS A B s d j) (m + 1)) := by
        have hx : sumN (termS A B s (q / 2) j) m + sumS A B s (m / 2) j * (wt (A.getD j 0) (m % 2) * wt (B.getD j 0) (q % 2)) = sumN (termS A B s (q / 2) j) (m + 1) := by rw [hterm, ht, decide_eq_true rfl, pick_true]
        rw [hx]
        exact tabL_set 2 (fun d => sumN (termS A B s d j) m) (fun d => sumN (termS A B s d j) (m + 1)) (q / 2) c4 (fun d _ hne => by
          show sumN (termS A B s d j) (m + 1) = sumN (termS A B s d j) m
          rw [hterm, ht, decide_eq_false (fun h => hne h.symm), pick_false, add_zero])
      rw [e]
      exact hih
  rw [← e0] at go
  exact go
theorem sums_ev {l : Nat} (hl : l ≤ 7) (A B : List E) (hA : AllS (l : Int) A) (hB : AllS (l : Int) B) (s : Nat) (hs : s < 2 ^ 63) (hlen : A.length = B.length) (hjm : A.length ≤ 60) :
    Ev (fun k => turn_sums.f k (l : Int) (s : Int) (A.map toS) (B.map toS)) ((tabL 2 (fun d => sumS A B s d A.length)).map toS) := by
  unfold turn_sums.f
  refine Ev.bnd One_ev ?_
  rw [List.length_map]
  have e0 : [toS 1, (⟨0, 0⟩ : S38)] = (tabL 2 (fun d => sumS A B s d 0)).map toS := by
    have h0 : (⟨0, 0⟩ : S38) = toS 0 := toS_zero.symm
    have h1 : tabL 2 (fun d => sumS A B s d 0) = [sumS A B s 0 0, sumS A B s 1 0] := rfl
    rw [h0, h1, sumS_zero, sumS_zero, decide_eq_true rfl, decide_eq_false (by decide), pick_true, pick_false]
    rfl
  rw [e0]
  refine Ev.down (g := fun j k => turn_sums.l3 k (l : Int) (s : Int) (A.map toS) (B.map toS) (A.length : Int) (j : Int) (List.replicate 2 z38) ((tabL 2 (fun d => sumS A B s d j)).map toS)) (n := A.length) ?_ fun j hj hih => ?_
  · exact Ev.step (fun k => by rw [turn_sums.l3]) (Ev.neg (Int.lt_irrefl _) (Ev.ret _))
  · refine Ev.step (fun k => by rw [turn_sums.l3]) (Ev.pos (by omega) ?_)
    refine sums_l7 hl A B hA hB s j hs hj (by omega) (by omega) _ ?_
    rw [w64_succ hj (by omega)]
    exact hih
end Go.Proofs.Ytdpbogooceiaaaa.Sp
namespace Go.Proofs.Ytdpbogooceiaaaa.Sp
open Go.Proofs.Ytdpbogooceiaaaa.V.B Go.RowKit Go.Proofs.Ytdpbogooceiaaaa.B Go.Proofs.Ytdpbogooceiaaaa.V.B.Ar Go.Proofs.Ytdpbogooceiaaaa.V.B.Tw
set_option linter.unusedVariables false
theorem awake15_ev : Ev (fun k => steeplelaw15_awake.f k) true := Ev.at 60 fun k => by kernel_rfl
theorem firsts_append : ∀ (R S X : List E), firsts (R ++ S) X = firsts S (firsts R X)
  | [], S, X => rfl
  | r :: R, S, X => firsts_append R S (first r X)
theorem lasts_append : ∀ (R S X : List E), lasts (R ++ S) X = lasts S (lasts R X)
  | [], S, X => rfl
  | r :: R, S, X => lasts_append R S (last r X)
theorem firsts_le : ∀ (R X : List E), (firsts R X).length ≤ X.length
  | [], X => Nat.le_refl _
  | r :: R, X => Nat.le_trans (firsts_le R (first r X)) (by rw [first_length]; omega)
theorem lasts_le : ∀ (R X : List E), (lasts R X).length ≤ X.length
  | [], X => Nat.le_refl _
  | r :: R, X => Nat.le_trans (lasts_le R (last r X)) (by rw [last_length]; omega)
theorem takeS (X : List E) {i : Nat} (h : i < X.length) : X.take (i + 1) = X.take i ++ [X.getD i 0] := by
  rw [List.take_succ_eq_append_getElem h, List.getD_eq_getElem?_getD, List.getElem?_eq_getElem h]; rfl
theorem rev_take (X : List E) {i : Nat} (h : i < X.length) : X.reverse.take (i + 1) = X.reverse.take i ++ [X.getD (X.length - 1 - i) 0] := by
  rw [takeS X.reverse (by rw [List.length_reverse]; exact h)]
  congr 2
  rw [List.getD_eq_getElem?_getD, List.getD_eq_getElem?_getD, List.getElem?_reverse h]
end Go.Proofs.Ytdpbogooceiaaaa.Sp
namespace Go.Proofs.Ytdpbogooceiaaaa.Pure
open Go.Proofs.Ytdpbogooceiaaaa.V.B Go.RowKit Go.Proofs.Ytdpbogooceiaaaa.B Go.Proofs.Ytdpbogooceiaaaa.V.B.Ar Go.Proofs.Ytdpbogooceiaaaa.V.B.Tw Go.Proofs.Ytdpbogooceiaaaa.Sp
set_option linter.unusedVariables false
theorem binds_end {L : Int} {X R P : List E} (hX : X.length ≤ 70) (hR : R.length ≤ 8) (hP : P.length ≤ 8) (h : askS L X R = 0) :
    Ev (fun q => steeplelaw15_CubeBinds.l14 q L (X.map toS) (R.length : Int) (R.map toS) (P.map toS) ((firsts R X).map toS) ((lasts R X).map toS) (R.map toR) ((firsts R X).map toR) ((lasts R X).map toR) (R.reverse.map toS)) true := by
  have hF := firsts_le R X
  have hL := lasts_le R X
  obtain ⟨hLv, hno, aX, aR⟩ := ask_zero h
  obtain ⟨l, rfl⟩ := Int.eq_ofNat_of_zero_le hLv.1
  have hl : l ≤ 7 := by have := hLv.2; omega
  refine Ev.step (fun q => by rw [steeplelaw15_CubeBinds.l14]) (Ev.neg (by rw [List.length_map]; exact Int.lt_irrefl _) ?_)
  refine Ev.bnd (Same_ev _ _ (by omega)) (Ev.nd (fun g => absurd rfl g) fun _ => Ev.bnd (Same_ev _ _ (by omega)) (Ev.nd (fun g => absurd rfl g) fun _ => ?_))
  have hA := At_ev (l : Int) (firsts R X) P (by omega) (by omega)
  refine Ev.bnd hA (Ev.both (fun g => ?_) fun _ => Ev.bnd awake15_ev (Ev.ret _))
  have g0 : atErr (l : Int) (firsts R X) P = 0 := by
    by_cases c : atErr (l : Int) (firsts R X) P = 0
    · exact c
    · rw [if_neg c] at g; exact g
  -- the sizes
  have hk : ∃ k : Nat, X.length = 2 ^ k ∧ k ≤ 16 ∧ R.length ≤ k ∧ logI (X.length : Int) = (k : Int) := by
    rcases logI_inv (X.length : Int) with e | ⟨m, h1, h2, h3⟩
    · exact absurd (.inl (by omega)) hno
    · exact ⟨m, by omega, h1, by omega, h3⟩
  obtain ⟨k, hXk, hk16, hRk, hlog⟩ := hk
  have hFl := firsts_length R X k hXk hRk
  have hLl := lasts_length R X k hXk hRk
  have g1 := g0
  unfold atErr at g1
  rw [if_pos hLv] at g1
  have hPk : logI ((firsts R X).length : Int) = (P.length : Int) ∧ AllS (l : Int) P := by
    split at g1
    · rename_i h1
      split at g1
      · rename_i h2; exact ⟨h1, h2.2⟩
      · cases g1
    · cases g1
  obtain ⟨hPk, aP⟩ := hPk
  rw [hFl, logI_pow (by omega)] at hPk
  have hkk : R.length + P.length = k := by omega
  have ok : ∀ Y Q : List E, Y.length = 2 ^ Q.length → Q.length ≤ 16 → AllS (l : Int) Y → AllS (l : Int) Q → atErr (l : Int) Y Q = 0 := by
    intro Y Q h1 h2 h3 h4
    unfold atErr
    rw [if_pos hLv, h1, logI_pow h2, if_pos rfl, if_pos ⟨h3, h4⟩]
  have aRP : AllS (l : Int) (R ++ P) := fun x hx => (List.mem_append.1 hx).elim (aR x) (aP x)
  have aPR : AllS (l : Int) (P ++ R.reverse) := fun x hx => (List.mem_append.1 hx).elim (aP x) fun hx => aR x (List.mem_reverse.1 hx)
  have h1 := At_ev (l : Int) X (R ++ P) (by omega) (by rw [List.length_append]; omega)
  have h2 := At_ev (l : Int) (lasts R X) P (by omega) (by omega)
  have h3 := At_ev (l : Int) X (P ++ R.reverse) (by omega) (by rw [List.length_append, List.length_reverse]; omega)
  have n1 : (R ++ P).length = k := by rw [List.length_append]; omega
  have n3 : (P ++ R.reverse).length = k := by rw [List.length_append, List.length_reverse]; omega
  rw [if_pos (ok X (R ++ P) (by rw [n1, hXk]) (by omega) aX aRP), value_firsts R X P k hXk hRk] at h1
  rw [if_pos (ok (lasts R X) P (by rw [hLl]; congr 1; omega) (by omega) (allS_lasts hl R X aR aX) aP)] at h2
  rw [if_pos (ok X (P ++ R.reverse) (by rw [n3, hXk]) (by omega) aX aPR), value_lasts R X P k hXk hkk] at h3
  rw [if_pos g0]
  rw [List.map_append] at h1 h3
  have f1 : ([] : List Int).length + (R.map toS).length ≤ 140737488355328 / 16 := by rw [List.length_nil, List.length_map]; omega
  have f2 : ([] ++ R.map toS).length + (P.map toS).length ≤ 140737488355328 / 16 := by rw [List.nil_append, List.length_map, List.length_map]; omega
  have f3 : ([] : List Int).length + (P.map toS).length ≤ 140737488355328 / 16 := by rw [List.length_nil, List.length_map]; omega
  have f4 : ([] ++ P.map toS).length + (R.reverse.map toS).length ≤ 140737488355328 / 16 := by rw [List.nil_append, List.length_map, List.length_map, List.length_reverse]; omega
  refine Ev.pos f1 (Ev.pos f2 ?_)
  rw [List.nil_append]
  refine Ev.bnd h1 (Ev.bnd h2 (Ev.pos f3 (Ev.pos f4 ?_)))
  rw [List.nil_append]
  exact Ev.bnd h3 (Ev.bnd awake15_ev (Ev.pos rfl (Ev.pos rfl (Ev.pos rfl (Ev.pos rfl (Ev.pos ⟨rfl, rfl⟩ (Ev.ret' (decide_eq_true ⟨rfl, rfl⟩))))))))
theorem CubeBinds : Stated.cubeBinds.Pure := by
  intro L t x h0 h1 h2
  obtain ⟨r, p⟩ := x
  obtain ⟨X, rfl⟩ := list_of t h1.1
  obtain ⟨R, rfl⟩ := list_of r h2.1.1
  obtain ⟨P, rfl⟩ := list_of p h2.2.1
  refine Ev.rounds (g := fun q => steeplelaw15_CubeBinds.f q L (X.map toS) (⟨R.map toS, P.map toS⟩ : S45)) ?_
  unfold steeplelaw15_CubeBinds.f
  dsimp only
  have yes : Ev (fun q => steeplelaw15_CubeBinds.j2 q) true := Ev.step (fun q => by rw [steeplelaw15_CubeBinds.j2]) (Ev.bnd awake15_ev (Ev.ret _))
  rw [List.length_map, List.length_map, List.length_map]
  refine Ev.both (fun _ => yes) fun c1 => Ev.both (fun _ => yes) fun c2 => Ev.both (fun _ => yes) fun c3 => ?_
  have hX : X.length ≤ 70 := by omega
  have hR : R.length ≤ 8 := by omega
  have hP : P.length ≤ 8 := by omega
  refine Ev.bnd (First_ev L X R (by omega) (by omega)) (Ev.bnd (Last_ev L X R (by omega) (by omega)) (Ev.bnd (Ref_ev R (by omega)) (Ev.bnd (Ref_ev X (by omega)) (Ev.bnd (refMay15_ev L X R (by omega) (by omega)) ?_))))
  by_cases h : askS L X R = 0
  rotate_left
  · rw [if_neg h, if_neg h]
    refine Ev.pos rfl (Ev.pos rfl (Ev.neg h (Ev.bnd awake15_ev (Ev.pos rfl (Ev.ret' ?_)))))
    have e0 : wrap64 ((0 : Int) + 0) = 0 := by decide +kernel
    exact decide_eq_true e0
  rw [if_pos h, if_pos h, h]
  refine Ev.pos rfl (Ev.pos rfl (Ev.pos rfl (Ev.bnd (Ref_ev X (by omega)) (Ev.bnd (Ref_ev X (by omega)) ?_))))
  refine Ev.down (g := fun i q => steeplelaw15_CubeBinds.l14 q L (X.map toS) (i : Int) (R.map toS) (P.map toS) ((firsts R X).map toS) ((lasts R X).map toS) (R.map toR) ((firsts (R.take i) X).map toR) ((lasts (R.take i) X).map toR) ((R.reverse.take i).map toS)) (n := R.length) ?_ fun i hi' hih => ?_
  · rw [List.take_of_length_le (Nat.le_refl _), List.take_of_length_le (by rw [List.length_reverse]; exact Nat.le_refl _)]
    exact binds_end hX hR hP h
  · have f0 : (i : Int) < (R.length : Int) := by omega
    have hX6 : X.length ≤ 1000000 := by omega
    have f2 : R.length - 1 - i < (R.map toS).length := by rw [List.length_map]; omega
    have f3 : ((R.reverse.take i).map toS).length + 1 ≤ 140737488355328 / 16 := by rw [List.length_map, List.length_take]; omega
    have e1 : wrap64 (wrap64 ((R.length : Int) - 1) - (i : Int)) = ((R.length - 1 - i : Nat) : Int) := by
      rw [w64_id (x := (R.length : Int) - 1) (by omega) (by omega), w64_id (by omega) (by omega)]; omega
    have e2 : wrap64 ((i : Int) + 1) = ((i + 1 : Nat) : Int) := w64_succ hi' (by omega)
    have a1 := Nat.le_trans (firsts_le (R.take i) X) hX6
    have a2 := Nat.le_trans (lasts_le (R.take i) X) hX6
    rw [takeS R hi', firsts_append, lasts_append, rev_take R hi', List.map_append] at hih
    refine Ev.step (fun q => by rw [steeplelaw15_CubeBinds.l14]) ?_
    rw [List.length_map, e1, e2]
    clear e1 e2
    refine Ev.pos f0 (Ev.pos (Int.natCast_nonneg _) (Ev.pos f0 ?_))
    rw [rdR, rdS]
    exact Ev.bnd (refFirst_ev _ _ a1) (Ev.pos (Int.natCast_nonneg _) (Ev.pos f0 (Ev.bnd (refLast_ev _ _ a2) (Ev.ixS f2 (Ev.pos f3 hih)))))
end Go.Proofs.Ytdpbogooceiaaaa.Pure
namespace Go.Proofs.Ytdpbogooceiaaaa.cubeBinds
open Go.Proofs.Ytdpbogooceiaaaa.V.B Go.ChangeShapes Go.WideShapes Go.ChangeAt Go.RowKit Go.Proofs.Ytdpbogooceiaaaa.B
set_option linter.unusedVariables false
set_option linter.unusedSimpArgs false
theorem own : ownKnob Try.prog.godebug = none := by kernel_rfl
theorem laidOut : laidOutB Try.prog = true := by kernel_rfl
def tab1 : Tab := ⟨[(3, .int .i64), (25, .slice (.st 1)), (36, .int .u64), (38, .st 1), (45, .st 3)], [], [(25, 16)], [], []⟩
theorem tab1_ok : tab1.chk E Try.prog = true := by kernel_rfl
theorem tie1 (calls : Nat → Option (Sig E.toTys)) : Tie (XR E) Try.prog (tab1.ctx calls) := tie_of zl_ok tab1_ok calls
theorem sts : chkSt E Try.prog tab1 tab1.tys = true := by kernel_rfl
set_option maxRecDepth 100000 in
theorem lifted (os : Os) (started : os.Started) (H : Type) (enc : TypeId × Value → H) :
    ReturnsInHanded {} Try.checked os 4 .any (Rows.cubeBindsSpec.pre6 enc Try.prog Try.f4 Rows.cubeBindsRow.domain false) (Rows.cubeBindsSpec.post enc Try.prog Try.f4 false true false false) := by
  refine returnsInHanded_of_change_sized (C := Try.checked) own started (by kernel_rfl) Try.func4
    (ChangeSpec.witness6 (enc := enc) (C := Try.checked) false ⟨#[], #[.int .i64 0, .slice none 0 0, .agg #[.slice none 0 0, .slice none 0 0]], []⟩ 8 (by kernel_rfl) (by kernel_rfl) (by kernel_rfl) (by kernel_rfl)) ?_
  intro W base args ds gs before hval0 hW hcnd hsz0 _
  have hval : ∀ (j : Nat) t v, Try.f4.params[j]? = some t → args[j]? = some v → Value.okWide Try.prog W .any base t v := hval0
  have hW' := hW
  obtain ⟨p, q, hA0, hV, rfl, hfz, hnd⟩ := hW
  have hA : DataW.TrodAll enc Try.prog W 0 (fun _ => true) true Try.f4.params.toList args.toList ds p := hA0
  rw [Try.params4] at hA hval
  obtain ⟨v0, vs0, d0, ds0, p0, q0, hargs, rfl, rfl, h0, r0⟩ := trodAll_cons hA
  obtain ⟨v1, vs1, d1, ds1, p1, q1, rfl, rfl, rfl, h1, r1⟩ := trodAll_cons r0
  obtain ⟨v2, vs2, d2, ds2, p2, q2, rfl, rfl, rfl, h2, r2⟩ := trodAll_cons r1
  obtain ⟨rfl, rfl, rfl⟩ := trodAll_nil r2
  obtain rfl : args = #[v0, v1, v2] := by cases args; simp_all
  obtain ⟨rfl, rfl⟩ := trodVars_none hV
  have k0 := h0
  have lt0 : ∀ x ∈ p0, x.block < W.heap.size := by obtain ⟨m, hm⟩ := k0; exact DataW.trod_lt m _ _ _ hm
  obtain ⟨x0, cs0, e0, R0, g0⟩ := arg_ok tie1 sts (t := 3) (ty := .int .i64) rfl rfl (hval 0 3 v0 rfl rfl) h0
  have k1 := h1
  have lt1 : ∀ x ∈ p1, x.block < W.heap.size := by obtain ⟨m, hm⟩ := k1; exact DataW.trod_lt m _ _ _ hm
  obtain ⟨x1, cs1, e1, R1, g1⟩ := arg_ok tie1 sts (t := 25) (ty := .slice (.st 1)) rfl rfl (hval 1 25 v1 rfl rfl) h1
  have k2 := h2
  have lt2 : ∀ x ∈ p2, x.block < W.heap.size := by obtain ⟨m, hm⟩ := k2; exact DataW.trod_lt m _ _ _ hm
  obtain ⟨x2, cs2, e2, R2, g2⟩ := arg_ok tie1 sts (t := 45) (ty := .st 3) rfl rfl (hval 2 45 v2 rfl rfl) h2
  clear hA0 hval0 hsz0
  obtain ⟨k, hpure⟩ := Pure.CubeBinds x0 x1 x2 (g0 4) (g1 4) (g2 4)
  refine ((steeplelaw15_CubeBinds.ok k).1 (x0, (x1, (x2, ()))) true hpure W (fun b => b < W.heap.size) [v0, v1, v2] (fun b hb => hb) ⟨_, _, cs0, rfl, R0, e0, ⟨_, _, cs1, rfl, R1, e1, ⟨_, _, cs2, rfl, R2, e2, rfl⟩⟩⟩).mono fun e W2 hh => ?_
  obtain ⟨rfl, bel⟩ := ret_bool hh
  exact ⟨_, rfl, _, _, _, [], _, [], hW', trodAll_mk1 (shut_bool Try.underlying4 _), (trodAll_cons_mk (Below.trod laidOut (by kernel_rfl) (of_decide_eq_true (by kernel_rfl)) k0 bel lt0) (trodAll_cons_mk (Below.trod laidOut (by kernel_rfl) (of_decide_eq_true (by kernel_rfl)) k1 bel lt1) (trodAll_cons_mk (Below.trod laidOut (by kernel_rfl) (of_decide_eq_true (by kernel_rfl)) k2 bel lt2) trodAll_mk0))), rfl, bel.frame _, fun h => by cases h⟩
theorem over : Rows.cubeBindsRow.holds Try.pinned (OpenSpec.ofChange Rows.cubeBindsSpec) :=
  OpenClaim.holds_of_wide 4 Try.f4 rfl rfl rfl rfl rfl rfl rfl ⟨rfl, rfl, rfl, rfl, rfl⟩ rfl rfl rfl rfl rfl (by kernel_rfl) Try.func4 (by kernel_rfl)
    (of_decide_eq_true (by kernel_rfl)) (by unfold Func.isWrapper; first | (rw [if_pos (by decide +kernel)]; kernel_rfl) | (rw [if_neg (by decide +kernel)]; exact ⟨rfl, rfl⟩))
    (fun os started H enc _ => lifted os started H enc)
end Go.Proofs.Ytdpbogooceiaaaa.cubeBinds
namespace Go.Proofs.Ytdpbogooceiaaaa
/-- The law, for every input. -/
theorem cubeBinds_holds : Rows.CubeBindsSaid := cubeBinds.over
#print axioms cubeBinds_holds
end Go.Proofs.Ytdpbogooceiaaaa

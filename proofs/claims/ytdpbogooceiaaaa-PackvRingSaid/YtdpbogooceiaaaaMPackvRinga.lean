/- PackvRing: tensors are multiplied in any order and grouping, and over sums; 1 changes nothing; sides swapped twice are as they were, and products go through the swap; for levels up to 3, lists of up to 20 parts. Own text. -/
import Derived.Test.YtdpbogooceiaaaaRows
import Derived.WalkKit
import Derived.ProofKit
import Derived.OpenShut
import Derived.ShutString
import Derived.ChangeOld
import Derived.Below
import Derived.SizedLaws
import Derived.Carry
import Derived.Test.YtdpbogooceiaaaaMBa
import Derived.Test.YtdpbogooceiaaaaMBb
import Derived.Test.YtdpbogooceiaaaaMBc
import Derived.Test.YtdpbogooceiaaaaMFa
import Derived.Test.YtdpbogooceiaaaaMFb
set_option linter.unusedSimpArgs false
set_option linter.unusedVariables false
namespace Go.Proofs.Ytdpbogooceiaaaa.Stated.packvRing
open Go.Proofs.Ytdpbogooceiaaaa.V.B Go.RowKit Go.Proofs.Ytdpbogooceiaaaa.B
def Pure : Prop := ∀ (x0 : Int) (x1 : List (List S38)), ((Lit.int .i64 x0).wf = true) → (List.length x1 = 3 ∧ ∀ y0 ∈ x1, (∀ y1 ∈ y0, ((Lit.int .u64 y1.f0).wf = true) ∧ ((Lit.int .u64 y1.f1).wf = true)) ∧ y0.length ≤ maxLen) → ∃ k, steeplelaw19_PackvRing.f k x0 x1 = some true
end Go.Proofs.Ytdpbogooceiaaaa.Stated.packvRing
namespace Go.Proofs.Ytdpbogooceiaaaa.Sp
open Go.Proofs.Ytdpbogooceiaaaa.V.B Go.RowKit Go.Proofs.Ytdpbogooceiaaaa.B Go.Proofs.Ytdpbogooceiaaaa.V.B.Ar Go.Proofs.Ytdpbogooceiaaaa.V.B.Tw
set_option linter.unusedVariables false
set_option linter.unusedSimpArgs false
theorem Q_le_64 {n : Nat} (h : n ≤ 6) : Q n ≤ 2 ^ 64 := Q_mono h
theorem Q_dvd {n : Nat} : Q n = 2 ^ 2 ^ n := rfl
theorem two_pow_le_32 {n : Nat} (h : n ≤ 5) : 2 ^ n ≤ 32 := Nat.pow_le_pow_right (n := 2) (by decide) h
theorem w64_pred {l : Nat} (h : l + 1 ≤ 1000) : wrap64 (((l + 1 : Nat) : Int) - 1) = (l : Int) := by rw [w64_id (by omega) (by omega)]; omega
theorem Q_lt_64 {n : Nat} (h : n ≤ 5) : Q n < 2 ^ 64 := Nat.pow_lt_pow_right (by decide) (by have := two_pow_le_32 h; omega)
theorem halves_eq (k : Nat) {l : Nat} (hl : l ≤ 5) (x : Nat) (hx : x < 2 ^ 64) : tower_halves.f k ((l + 1 : Nat) : Int) (x : Int) = some (((x / Q l : Nat) : Int), ((x % Q l : Nat) : Int)) := by
  unfold tower_halves.f
  have h32 := two_pow_le_32 hl
  have hQ := Q_lt_64 hl
  have hm : IntKind.u64.wrap (((2 ^ 2 ^ l : Nat) : Int) - 1) = ((2 ^ 2 ^ l - 1 : Nat) : Int) := by
    have := Nat.two_pow_pos (2 ^ l)
    unfold Q at hQ
    generalize 2 ^ 2 ^ l = q at *
    rw [u64_id (by omega) (by omega)]; omega
  rw [w64_pred (by omega), if_pos (Int.natCast_nonneg _), shl_i64 l (by omega), if_pos (Int.natCast_nonneg _), shr_u64 x (2 ^ l) (by omega), shl_u64 (2 ^ l) (by omega), hm]
  rw [and_u64 x _ hx (by have := Nat.two_pow_pos (2 ^ l); unfold Q at hQ; omega), Nat.and_two_pow_sub_one_eq_mod]
  rfl
theorem join_eq (k : Nat) {l : Nat} (hl : l ≤ 5) (h x : Nat) (hh : h < Q l) (hx : x < Q l) : tower_join.f k ((l + 1 : Nat) : Int) (h : Int) (x : Int) = some ((h * Q l + x : Nat) : Int) := by
  unfold tower_join.f
  have h32 := two_pow_le_32 hl
  have hQ := Q_lt_64 hl
  have h6 : Q (l + 1) ≤ 2 ^ 64 := Q_le_64 (by omega)
  have hhx : h * Q l + Q l ≤ Q (l + 1) := by
    rw [Q_succ]
    have := Nat.mul_le_mul_right (Q l) hh
    rw [Nat.succ_mul] at this; exact this
  have hs : shl .u64 (h : Int) (((2 ^ l : Nat) : Int)) = ((h * Q l : Nat) : Int) := by
    unfold shl
    have h64 : IntKind.u64.bits = 64 := rfl
    rw [h64, Int.toNat_natCast, Nat.min_eq_left (by omega)]
    have hc : ((h : Int) * 2 ^ 2 ^ l) = ((h * Q l : Nat) : Int) := by unfold Q; simp
    rw [hc]
    have : h * Q l < 2 ^ 64 := by omega
    generalize h * Q l = z at *
    exact u64_id (by omega) (by omega)
  rw [w64_pred (by omega), if_pos (by omega), shl_u64 l (by omega), if_pos (Int.natCast_nonneg _), hs, or_u64 _ _ (by omega) (by omega)]
  congr 2
  unfold Q at *
  rw [Nat.mul_comm, ← Nat.two_pow_add_eq_or_of_lt hx]
theorem halves_ev {l : Nat} (hl : l ≤ 5) (x : Nat) (hx : x < 2 ^ 64) : Ev (fun k => tower_halves.f k ((l + 1 : Nat) : Int) (x : Int)) (((x / Q l : Nat) : Int), ((x % Q l : Nat) : Int)) := ⟨0, fun k _ => halves_eq k hl x hx⟩
theorem join_ev {l : Nat} (hl : l ≤ 5) (h x : Nat) (hh : h < Q l) (hx : x < Q l) : Ev (fun k => tower_join.f k ((l + 1 : Nat) : Int) (h : Int) (x : Int)) ((h * Q l + x : Nat) : Int) := ⟨0, fun k _ => join_eq k hl h x hh hx⟩
theorem mulX_ev : ∀ (l : Nat), l ≤ 6 → ∀ (x : Nat), x < Q l → Ev (fun k => tower_mulX.f k (l : Int) (x : Int)) ((val (gen l * of l x) : Nat) : Int) := by
  intro l
  induction l with
  | zero =>
    intro _ x hx
    refine Ev.step (fun k => by rw [tower_mulX.f]) (Ev.pos (by rfl) (Ev.ret' ?_))
    rw [gen_zero, one_mul, val_of 0 x hx]
  | succ l ih =>
    intro hl x hx
    have hx64 : x < 2 ^ 64 := Nat.lt_of_lt_of_le hx (Q_le_64 hl)
    have hd : x / Q l < Q l := Nat.div_lt_of_lt_mul (by rw [← Q_succ]; exact hx)
    have hm : x % Q l < Q l := Nat.mod_lt _ (Q_pos l)
    have hQ := Q_lt_64 (n := l) (by omega)
    refine Ev.step (fun k => by rw [tower_mulX.f]) (Ev.neg (by omega) (Ev.bnd (halves_ev (by omega) x hx64) ?_))
    simp only [w64_pred (show l + 1 ≤ 1000 by omega)]
    refine Ev.bnd (ih (by omega) _ hd) ?_
    have hv := val_lt (gen l * of l (x / Q l))
    simp only [xor_u64 _ _ (Nat.lt_trans hm hQ) (Nat.lt_trans hv hQ)]
    refine Ev.bnd (join_ev (by omega) _ _ (xor_lt hm hv) hd) (Ev.ret' ?_)
    congr 1
    rw [val_succ (gen (l + 1) * of (l + 1) x)]
    congr 1
    · congr 1
      have e : (gen (l + 1) * of (l + 1) x).1 = of l (x % Q l) + gen l * of l (x / Q l) := by
        rw [mul_fst, gen_fst, gen_snd, one_mul, zero_mul, one_mul, add_zero]; rfl
      rw [e, val_add, val_of _ _ hm]
    · have e : (gen (l + 1) * of (l + 1) x).2 = of l (x / Q l) := by
        rw [mul_snd, gen_fst, gen_snd, one_mul, zero_mul, zero_add]; rfl
      rw [e, val_of _ _ hd]
theorem karatsuba {n : Nat} (a1 a0 b1 b0 z : T n) : (a1 + a0) * (b1 + b0) + a1 * b1 + a0 * b0 + z = (a1 * b0 + a0 * b1) + z := by
  have : (a1 + a0) * (b1 + b0) + a1 * b1 + a0 * b0 = a1 * b0 + a0 * b1 := by
    simp only [mul_add, add_mul]
    have : ∀ p q r s : T n, p + q + (r + s) + p + s = q + r := fun p q r s => by
      rw [add_comm p q, add_assoc, add_assoc, add_assoc]
      rw [show p + (r + s + (p + s)) = (p + p) + (r + (s + s)) by simp only [add_assoc, add_left_comm, add_comm]]
      rw [add_self, add_self, zero_add, add_zero]
    rw [show a1 * b1 + a0 * b1 + (a1 * b0 + a0 * b0) = a1 * b1 + a0 * b1 + (a1 * b0 + a0 * b0) from rfl, this, add_comm]
  rw [this]
theorem mul_ev : ∀ (l : Nat), l ≤ 6 → ∀ (x y : Nat), x < Q l → y < Q l → Ev (fun k => tower_mul.f k (l : Int) (x : Int) (y : Int)) ((val (of l x * of l y) : Nat) : Int) := by
  intro l
  have hz : ∀ (l : Nat), l ≤ 6 → ∀ (x y : Nat), x < Q l → y < Q l → (l = 0 ∨ x = 0 ∨ y = 0) → Ev (fun k => tower_mul.j2 k (x : Int) (y : Int)) ((val (of l x * of l y) : Nat) : Int) := by
    intro l hl x y hx hy h
    have hQ := Q_le_64 hl
    refine Ev.step (fun k => by rw [tower_mul.j2]) (Ev.ret' ?_)
    rw [and_u64 x y (by omega) (by omega)]
    have hxy : x &&& y < 2 ^ 64 := Nat.and_lt_two_pow _ (by omega)
    rw [show (1 : Int) = ((1 : Nat) : Int) from rfl, and_u64 _ 1 hxy (by decide)]
    congr 1
    rcases h with rfl | rfl | rfl
    · have h1 : x < 2 := hx
      have h2 : y < 2 := hy
      rcases (by omega : x = 0 ∨ x = 1) with rfl | rfl <;> rcases (by omega : y = 0 ∨ y = 1) with rfl | rfl <;> rfl
    · rw [of_zero, zero_mul, val_zero]; simp
    · rw [of_zero, mul_zero, val_zero]; simp
  induction l with
  | zero =>
    intro hl x y hx hy
    exact Ev.step (fun k => by rw [tower_mul.f]) (Ev.pos (by rfl) (hz 0 hl x y hx hy (Or.inl rfl)))
  | succ l ih =>
    intro hl x y hx hy
    refine Ev.step (fun k => by rw [tower_mul.f]) (Ev.neg (by omega) ?_)
    by_cases hx0 : x = 0
    · exact Ev.pos (by omega) (hz (l + 1) hl x y hx hy (Or.inr (Or.inl hx0)))
    refine Ev.neg (by omega) ?_
    by_cases hy0 : y = 0
    · exact Ev.pos (by omega) (hz (l + 1) hl x y hx hy (Or.inr (Or.inr hy0)))
    refine Ev.neg (by omega) ?_
    have hQ := Q_lt_64 (n := l) (by omega)
    have hx64 : x < 2 ^ 64 := Nat.lt_of_lt_of_le hx (Q_le_64 hl)
    have hy64 : y < 2 ^ 64 := Nat.lt_of_lt_of_le hy (Q_le_64 hl)
    have hxd : x / Q l < Q l := Nat.div_lt_of_lt_mul (by rw [← Q_succ]; exact hx)
    have hxm : x % Q l < Q l := Nat.mod_lt _ (Q_pos l)
    have hyd : y / Q l < Q l := Nat.div_lt_of_lt_mul (by rw [← Q_succ]; exact hy)
    have hym : y % Q l < Q l := Nat.mod_lt _ (Q_pos l)
    have hl5 : l ≤ 5 := by omega
    refine Ev.bnd (halves_ev hl5 x hx64) (Ev.bnd (halves_ev hl5 y hy64) ?_)
    simp only [w64_pred (show l + 1 ≤ 1000 by omega)]
    refine Ev.bnd (ih (by omega) _ _ hxd hyd) (Ev.bnd (ih (by omega) _ _ hxm hym) ?_)
    simp only [xor_u64 _ _ (Nat.lt_trans hxd hQ) (Nat.lt_trans hxm hQ), xor_u64 _ _ (Nat.lt_trans hyd hQ) (Nat.lt_trans hym hQ)]
    refine Ev.bnd (ih (by omega) _ _ (xor_lt hxd hxm) (xor_lt hyd hym)) ?_
    have v1 := val_lt (of l (x / Q l) * of l (y / Q l))
    have v2 := val_lt (of l (x % Q l) * of l (y % Q l))
    have v3 := val_lt (of l (x / Q l ^^^ x % Q l) * of l (y / Q l ^^^ y % Q l))
    refine Ev.bnd (mulX_ev l (by omega) _ v1) ?_
    have v4 := val_lt (gen l * of l (val (of l (x / Q l) * of l (y / Q l))))
    simp only [xor_u64 _ _ (Nat.lt_trans v3 hQ) (Nat.lt_trans v1 hQ), xor_u64 _ _ (Nat.lt_trans (xor_lt v3 v1) hQ) (Nat.lt_trans v2 hQ), xor_u64 _ _ (Nat.lt_trans (xor_lt (xor_lt v3 v1) v2) hQ) (Nat.lt_trans v4 hQ), xor_u64 _ _ (Nat.lt_trans v2 hQ) (Nat.lt_trans v1 hQ)]
    refine Ev.bnd (join_ev (by omega) _ _ (xor_lt (xor_lt (xor_lt v3 v1) v2) v4) (xor_lt v2 v1)) (Ev.ret' ?_)
    congr 1
    rw [val_succ (of (l + 1) x * of (l + 1) y)]
    congr 1
    · congr 1
      rw [mul_fst, of_succ, of_succ, mk_fst, mk_snd, mk_fst, mk_snd, ← karatsuba, val_add, val_add, val_add, of_xor hxd hxm, of_xor hyd hym, of_val]
    · rw [mul_snd, of_succ, of_succ, mk_fst, mk_snd, mk_fst, mk_snd, val_add]
end Go.Proofs.Ytdpbogooceiaaaa.Sp
namespace Go.Proofs.Ytdpbogooceiaaaa.Sp
open Go.Proofs.Ytdpbogooceiaaaa.V.B Go.RowKit Go.Proofs.Ytdpbogooceiaaaa.B Go.Proofs.Ytdpbogooceiaaaa.V.B.Ar Go.Proofs.Ytdpbogooceiaaaa.V.B.Tw
set_option linter.unusedVariables false
set_option linter.unusedSimpArgs false
abbrev E := T 7
/-- The higher and the lower word. -/
def hi (x : E) : Int := ((val x.1 : Nat) : Int)
def lo (x : E) : Int := ((val x.2 : Nat) : Int)
def el (h l : Int) : E := mk (of 6 h.toNat) (of 6 l.toNat)
theorem hi_el {h l : Int} (h0 : 0 ≤ h) (h1 : h < 18446744073709551616) : hi (el h l) = h := by
  unfold hi el; rw [mk_fst, val_of 6 _ (by rw [Q_six]; omega)]; omega
theorem lo_el {h l : Int} (h0 : 0 ≤ l) (h1 : l < 18446744073709551616) : lo (el h l) = l := by
  unfold lo el; rw [mk_snd, val_of 6 _ (by rw [Q_six]; omega)]; omega
theorem hl_inj {x y : E} (h : hi x = hi y) (l : lo x = lo y) : x = y := by
  unfold hi lo at *; exact ext (val_inj (by omega)) (val_inj (by omega))
theorem hi_zero : hi 0 = 0 := by unfold hi; rw [zero_fst, val_zero]; rfl
theorem lo_zero : lo 0 = 0 := by unfold lo; rw [zero_snd, val_zero]; rfl
theorem hi_one : hi 1 = 0 := by unfold hi; rw [one_fst, val_zero]; rfl
theorem lo_one : lo 1 = 1 := by unfold lo; rw [one_snd, val_one]; rfl
theorem hi_bd (x : E) : 0 ≤ hi x ∧ hi x < 18446744073709551616 := by
  unfold hi; have := val_lt x.1; rw [Q_six] at this; omega
theorem lo_bd (x : E) : 0 ≤ lo x ∧ lo x < 18446744073709551616 := by
  unfold lo; have := val_lt x.2; rw [Q_six] at this; omega
theorem val_hl (x : E) : val x = (hi x).toNat * 18446744073709551616 + (lo x).toNat := by
  unfold hi lo; rw [val_succ, Q_six]; simp
theorem eq_zero_iff (x : E) : x = 0 ↔ hi x = 0 ∧ lo x = 0 := ⟨fun h => by rw [h]; exact ⟨hi_zero, lo_zero⟩, fun h => hl_inj (h.1.trans hi_zero.symm) (h.2.trans lo_zero.symm)⟩
theorem xor_hi (x y : E) : Go.bits .xor .u64 (hi x) (hi y) = hi (x + y) := by
  unfold hi; rw [xor_u64 _ _ (val_lt x.1) (val_lt y.1), add_fst, val_add]
theorem xor_lo (x y : E) : Go.bits .xor .u64 (lo x) (lo y) = lo (x + y) := by
  unfold lo; rw [xor_u64 _ _ (val_lt x.2) (val_lt y.2), add_snd, val_add]
/-- Of a level. -/
def InL (l : Nat) (x : E) : Prop := val x < Q l
instance (l : Nat) (x : E) : Decidable (InL l x) := by unfold InL; infer_instance
def OfS (L : Int) (x : E) : Prop := 0 ≤ L ∧ L ≤ 7 ∧ InL L.toNat x
instance (L : Int) (x : E) : Decidable (OfS L x) := by unfold OfS; infer_instance
theorem inL_seven (x : E) : InL 7 x := val_lt x
theorem inL_zero (l : Nat) : InL l 0 := by unfold InL; rw [val_zero]; exact Q_pos l
theorem inL_one (l : Nat) : InL l 1 := by unfold InL; rw [val_one]; exact Nat.lt_of_lt_of_le (by decide : 1 < Q 0) (Q_mono (Nat.zero_le _))
theorem inL_mono {l m : Nat} (h : l ≤ m) {x : E} (hx : InL l x) : InL m x := Nat.lt_of_lt_of_le hx (Q_mono h)
theorem inL_add {l : Nat} {x y : E} (hx : InL l x) (hy : InL l y) : InL l (x + y) := by
  unfold InL at *; rw [val_add]; exact xor_lt hx hy
theorem inL_mul {l : Nat} (hl : l ≤ 7) {x y : E} (hx : InL l x) (hy : InL l y) : InL l (x * y) := by
  unfold InL at *; have := val_mul_lt hl hx hy; rwa [of_val, of_val] at this
theorem inL_six {x : E} : InL 6 x ↔ hi x = 0 := by
  unfold InL; have h := val_hl x; have h1 := hi_bd x; have h2 := lo_bd x
  rw [Q_six, h]; constructor <;> intro g <;> omega
theorem inL_low {l : Nat} (hl : l ≤ 6) {x : E} : InL l x ↔ hi x = 0 ∧ (lo x).toNat < Q l := by
  constructor
  · intro h
    have h6 := inL_six.1 (inL_mono hl h)
    refine ⟨h6, ?_⟩
    unfold InL at h; rw [val_hl, h6] at h; simpa using h
  · rintro ⟨h1, h2⟩
    unfold InL; rw [val_hl, h1]; simpa using h2
/-- The program's element, the document's. -/
@[reducible] def toS (x : E) : S38 := ⟨hi x, lo x⟩
@[reducible] def toR (x : E) : S51 := ⟨hi x, lo x⟩
def WfS (e : S38) : Prop := (0 ≤ e.f0 ∧ e.f0 < 18446744073709551616) ∧ (0 ≤ e.f1 ∧ e.f1 < 18446744073709551616)
theorem of_ev (L : Int) (x : E) : Ev (fun k => octet_Of.f k L (toS x)) (decide (OfS L x)) := by
  unfold octet_Of.f
  by_cases h0 : L < 0
  · refine Ev.pos h0 (Ev.ret' ?_)
    symm; rw [decide_eq_false_iff_not]; rintro ⟨h, _⟩; omega
  refine Ev.neg h0 ?_
  by_cases h7 : L > 7
  · refine Ev.pos h7 (Ev.ret' ?_)
    symm; rw [decide_eq_false_iff_not]; rintro ⟨_, h, _⟩; omega
  refine Ev.neg h7 ?_
  obtain ⟨l, rfl⟩ := Int.eq_ofNat_of_zero_le (show 0 ≤ L by omega)
  have hS : OfS (l : Int) x ↔ InL l x := by
    unfold OfS; rw [Int.toNat_natCast]; exact ⟨fun h => h.2.2, fun h => ⟨by omega, by omega, h⟩⟩
  by_cases c7 : (l : Int) = 7
  · refine Ev.pos c7 (Ev.ret' ?_)
    have : l = 7 := by omega
    subst this
    symm; rw [decide_eq_true_eq, hS]; exact inL_seven x
  refine Ev.neg c7 ?_
  by_cases c6 : (l : Int) = 6
  · refine Ev.pos c6 (Ev.ret' ?_)
    have : l = 6 := by omega
    subst this
    rw [decide_eq_decide, hS]; exact inL_six.symm
  refine Ev.neg c6 ?_
  have hl5 : l ≤ 5 := by omega
  have hl := inL_low (l := l) (by omega) (x := x)
  by_cases c0 : hi x = 0
  · have h32 := two_pow_le_32 hl5
    refine Ev.pos c0 (Ev.pos (Int.natCast_nonneg _) (Ev.pos (by rw [shl_u64 l (by omega)]; exact Int.natCast_nonneg _) (Ev.ret' ?_)))
    show decide (shr .u64 (lo x) _ = 0) = _
    have hlo : lo x = (((lo x).toNat : Nat) : Int) := by have := lo_bd x; omega
    rw [shl_u64 l (by omega), hlo, shr_u64 _ (2 ^ l) (by omega)]
    rw [decide_eq_decide, hS, hl]
    have hq : (lo x).toNat / 2 ^ 2 ^ l = 0 ↔ (lo x).toNat < Q l := by
      rw [Nat.div_eq_zero_iff]; unfold Q
      have := Nat.two_pow_pos (2 ^ l)
      omega
    constructor
    · intro h; exact ⟨c0, hq.1 (by exact_mod_cast h)⟩
    · rintro ⟨_, h⟩; exact_mod_cast hq.2 h
  · refine Ev.neg c0 (Ev.ret' ?_)
    symm; rw [decide_eq_false_iff_not, hS, hl]; exact fun h => c0 h.1
theorem Add_ev (x y : E) : Ev (fun k => tower_Add.f k (toS x) (toS y)) (toS (x + y)) := ⟨0, fun k _ => by
  show some (⟨bits .xor .u64 (hi x) (hi y), bits .xor .u64 (lo x) (lo y)⟩ : S38) = _
  rw [xor_hi, xor_lo]⟩
theorem refAdd_ev (x y : E) : Ev (fun k => steepleref02_Add.f k (toR x) (toR y)) (toR (x + y)) := ⟨0, fun k _ => by
  show some (⟨bits .xor .u64 (hi x) (hi y), bits .xor .u64 (lo x) (lo y)⟩ : S51) = _
  rw [xor_hi, xor_lo]⟩
theorem One_ev : Ev (fun k => tower_One.f k) (toS 1) := ⟨0, fun k _ => by unfold tower_One.f toS; rw [hi_one, lo_one]⟩
theorem toS_zero : toS 0 = z38 := by unfold toS; rw [hi_zero, lo_zero]; rfl
theorem Mul_out {L : Int} {x y : E} (h : ¬ (OfS L x ∧ OfS L y)) : Ev (fun k => tower_Mul.f k L (toS x) (toS y)) (toS 0) := by
  rw [toS_zero]
  unfold tower_Mul.f
  refine Ev.bnd (of_ev L x) ?_
  by_cases c : OfS L x
  · rw [decide_eq_true c]
    refine Ev.neg (by decide) (Ev.bnd (of_ev L y) ?_)
    rw [decide_eq_false (fun g => h ⟨c, g⟩)]
    exact Ev.pos rfl (Ev.ret _)
  · rw [decide_eq_false c]
    exact Ev.pos rfl (Ev.ret _)
theorem Mul_ev {l : Nat} (hl : l ≤ 7) {x y : E} (hx : InL l x) (hy : InL l y) : Ev (fun k => tower_Mul.f k (l : Int) (toS x) (toS y)) (toS (x * y)) := by
  unfold tower_Mul.f
  have hS : ∀ z, InL l z → OfS (l : Int) z := fun z hz => ⟨by omega, by omega, by rw [Int.toNat_natCast]; exact hz⟩
  refine Ev.bnd (of_ev (l : Int) x) ?_
  rw [decide_eq_true (hS x hx)]
  refine Ev.neg (by decide) (Ev.bnd (of_ev (l : Int) y) ?_)
  rw [decide_eq_true (hS y hy)]
  refine Ev.neg (by decide) ?_
  by_cases c : l ≤ 6
  · refine Ev.pos (by omega) ?_
    have ex := (inL_low c).1 hx
    have ey := (inL_low c).1 hy
    have e1 : lo x = (((lo x).toNat : Nat) : Int) := by have := lo_bd x; omega
    have e2 : lo y = (((lo y).toNat : Nat) : Int) := by have := lo_bd y; omega
    have ev := mul_ev l c (lo x).toNat (lo y).toNat ex.2 ey.2
    rw [← e1, ← e2] at ev
    refine Ev.bnd ev (Ev.ret' ?_)
    unfold toS
    have hz := (inL_low c).1 (inL_mul hl hx hy)
    have e3 : lo (x * y) = (((lo (x * y)).toNat : Nat) : Int) := by have := lo_bd (x * y); omega
    rw [hz.1, e3]
    congr 2
    have vx : val x = (lo x).toNat := by rw [val_hl, ex.1]; simp
    have vy : val y = (lo y).toNat := by rw [val_hl, ey.1]; simp
    have vz : val (x * y) = (lo (x * y)).toNat := by rw [val_hl, hz.1]; simp
    rw [← vz, ← vx, ← vy, ← val_mul_level hl hx hy, of_val, of_val]
  · have : l = 7 := by omega
    subst this
    refine Ev.neg (by decide) ?_
    have v1 := val_lt x.1
    have v2 := val_lt x.2
    have v3 := val_lt y.1
    have v4 := val_lt y.2
    have m1 := mul_ev 6 (by decide) _ _ v1 v3
    have m2 := mul_ev 6 (by decide) _ _ v2 v4
    have m3 := mul_ev 6 (by decide) _ _ (xor_lt v1 v2) (xor_lt v3 v4)
    rw [of_val, of_val] at m1 m2
    rw [← val_add, ← val_add, of_val, of_val] at m3
    have m4 := mulX_ev 6 (by decide) _ (val_lt (x.1 * y.1))
    rw [of_val] at m4
    refine Ev.bnd m1 (Ev.bnd m2 ?_)
    have e1 : Go.bits .xor .u64 (hi x) (lo x) = ((val (x.1 + x.2) : Nat) : Int) := by unfold hi lo; rw [xor_u64 _ _ v1 v2, val_add]
    have e2 : Go.bits .xor .u64 (hi y) (lo y) = ((val (y.1 + y.2) : Nat) : Int) := by unfold hi lo; rw [xor_u64 _ _ v3 v4, val_add]
    simp only [toS, e1, e2]
    refine Ev.bnd m3 (Ev.bnd m4 (Ev.ret' ?_))
    rw [xor_u64 _ _ (val_lt _) (val_lt _), ← val_add, xor_u64 _ _ (val_lt _) (val_lt _), ← val_add, xor_u64 _ _ (val_lt _) (val_lt _), ← val_add, xor_u64 _ _ (val_lt _) (val_lt _), ← val_add, karatsuba]
    rfl
theorem toS_f0 (x : E) : (toS x).f0 = hi x := rfl
theorem toS_f1 (x : E) : (toS x).f1 = lo x := rfl
theorem toR_f0 (x : E) : (toR x).f0 = hi x := rfl
theorem toR_f1 (x : E) : (toR x).f1 = lo x := rfl
theorem toR_zero : toR 0 = z51 := by unfold toR; rw [hi_zero, lo_zero]; rfl
theorem toS_el (e : S38) (h : WfS e) : toS (el e.f0 e.f1) = e := by unfold toS; rw [hi_el h.1.1 h.1.2, lo_el h.2.1 h.2.2]
theorem toS_inj {x y : E} (h : toS x = toS y) : x = y := by
  unfold toS at h; injection h with h1 h2; exact hl_inj h1 h2
theorem wf_of {e : S38} (h : (Lit.int .u64 e.f0).wf = true ∧ (Lit.int .u64 e.f1).wf = true) : WfS e := ⟨wf_u64 h.1, wf_u64 h.2⟩
/-- A list that came in is a list of elements. -/
theorem list_of (l : List S38) (h : ∀ e ∈ l, ((Lit.int .u64 e.f0).wf = true) ∧ ((Lit.int .u64 e.f1).wf = true)) : ∃ X : List E, l = X.map toS := by
  refine ⟨l.map fun e => el e.f0 e.f1, ?_⟩
  rw [List.map_map]
  conv => lhs; rw [← List.map_id l]
  apply List.map_congr_left
  intro e he
  exact (toS_el e (wf_of (h e he))).symm
theorem elem_of (e : S38) (h : ((Lit.int .u64 e.f0).wf = true) ∧ ((Lit.int .u64 e.f1).wf = true)) : ∃ x : E, e = toS x := ⟨_, (toS_el e (wf_of h)).symm⟩
theorem rdS (X : List E) (i : Nat) : rd38 (X.map toS) (i : Int) = toS (X.getD i 0) := by
  unfold rd38; rw [Int.toNat_natCast, ← toS_zero, List.getD_eq_getElem?_getD, List.getD_eq_getElem?_getD, List.getElem?_map]
  cases X[i]? <;> rfl
theorem rdR (X : List E) (i : Nat) : rd51 (X.map toR) (i : Int) = toR (X.getD i 0) := by
  unfold rd51; rw [Int.toNat_natCast, ← toR_zero, List.getD_eq_getElem?_getD, List.getD_eq_getElem?_getD, List.getElem?_map]
  cases X[i]? <;> rfl
end Go.Proofs.Ytdpbogooceiaaaa.Sp
namespace Go.Proofs.Ytdpbogooceiaaaa.Sp
open Go.Proofs.Ytdpbogooceiaaaa.V.B Go.RowKit Go.Proofs.Ytdpbogooceiaaaa.B Go.Proofs.Ytdpbogooceiaaaa.V.B.Ar Go.Proofs.Ytdpbogooceiaaaa.V.B.Tw
set_option linter.unusedVariables false
set_option linter.unusedSimpArgs false
/-- Is there such a level? -/
def LvS (L : Int) : Prop := 0 ≤ L ∧ L ≤ 7
instance (L : Int) : Decidable (LvS L) := by unfold LvS; infer_instance
theorem wide_out {L : Int} (h : ¬ LvS L) : Ev (fun k => octet_Wide.f k L) 0 := by
  unfold octet_Wide.f
  by_cases h0 : L < 0
  · exact Ev.pos h0 (Ev.ret _)
  · exact Ev.neg h0 (Ev.pos (by unfold LvS at h; omega) (Ev.ret _))
theorem wide_in {L : Int} (h : LvS L) : ∃ v, v ≠ 0 ∧ Ev (fun k => octet_Wide.f k L) v := by
  obtain ⟨h0, h7⟩ := h
  obtain ⟨l, rfl⟩ := Int.eq_ofNat_of_zero_le h0
  have hstep : ∀ {g : Nat → Option Int} {v : Int}, Ev g v → Ev (fun k => if (l : Int) < 0 then some 0 else if (l : Int) > 7 then some 0 else g k) v := fun hv => Ev.neg (by omega) (Ev.neg (by omega) hv)
  by_cases c : (l : Int) ≤ 3
  · exact ⟨1, by decide, hstep (Ev.pos c (Ev.ret _))⟩
  · have e : wrap64 ((l : Int) - 3) = ((l - 3 : Nat) : Int) := by rw [w64_id (by omega) (by omega)]; omega
    refine ⟨((2 ^ (l - 3) : Nat) : Int), by have := Nat.two_pow_pos (l - 3); omega, hstep (Ev.neg c ?_)⟩
    rw [e]
    exact Ev.pos (Int.natCast_nonneg _) (Ev.ret' (shl_i64 (l - 3) (by omega)))
theorem rdL (l : Nat) (h : l ≤ 7) : rdI ([1, 2, 4, 8, 16, 32, 64, 128] : List Int) (l : Int) = ((2 ^ l : Nat) : Int) := by
  have : ∀ m, m ≤ 7 → rdI ([1, 2, 4, 8, 16, 32, 64, 128] : List Int) ((m : Nat) : Int) = ((2 ^ m : Nat) : Int) := by decide
  exact this l h
theorem and_one_u64 (a n : Nat) (ha : a < 2 ^ 64) (hn : n ≤ 64) : Go.bits .and .u64 (shr .u64 (a : Int) (n : Int)) 1 = if a.testBit n then 1 else 0 := by
  rw [shr_u64 a n hn]
  have hd : a / 2 ^ n < 2 ^ 64 := Nat.lt_of_le_of_lt (Nat.div_le_self _ _) ha
  rw [show (1 : Int) = ((1 : Nat) : Int) from rfl, and_u64 _ 1 hd (by decide), Nat.and_one_is_mod, Nat.testBit_eq_decide_div_mod_eq]
  by_cases c : a / 2 ^ n % 2 = 1
  · rw [c]; simp
  · rw [show a / 2 ^ n % 2 = 0 by omega]; simp
theorem refbit_eq (k : Nat) (x : E) (n : Nat) (hn : n < 128) : steepleref01_bit.f k (toR x) (n : Int) = some (if (val x).testBit n then 1 else 0) := by
  have hx1 := val_lt x.1
  have hx2 := val_lt x.2
  have hQ : Q 6 = 2 ^ 64 := rfl
  rw [hQ] at hx1 hx2
  have hv : val x = 2 ^ 64 * val x.1 + val x.2 := by rw [val_succ, hQ, Nat.mul_comm]
  unfold steepleref01_bit.f
  rw [hv, Nat.testBit_two_pow_mul_add _ hx2]
  unfold toR hi lo
  by_cases c : n < 64
  · have e : IntKind.u64.wrap (n : Int) = (n : Int) := u64_id (by omega) (by omega)
    rw [if_neg (by omega), e, if_pos (Int.natCast_nonneg _), and_one_u64 _ _ hx2 (by omega), if_pos c]
  · have e : IntKind.u64.wrap (wrap64 ((n : Int) - 64)) = ((n - 64 : Nat) : Int) := by
      rw [w64_id (by omega) (by omega), u64_id (by omega) (by omega)]; omega
    rw [if_pos (by omega), e, if_pos (Int.natCast_nonneg _), and_one_u64 _ _ hx1 (by omega), if_neg c]
theorem refbit_ev (x : E) (n : Nat) (hn : n < 128) : Ev (fun k => steepleref01_bit.f k (toR x) (n : Int)) (if (val x).testBit n then 1 else 0) := ⟨0, fun k _ => refbit_eq k x n hn⟩
theorem refOf_l0 (x : E) : ∀ (d n : Nat), n + d = 128 → Ev (fun k => steepleref01_Of.l5 k (n : Int) (hi x) (lo x)) (decide (val x < 2 ^ n)) := by
  intro d
  induction d with
  | zero =>
    intro n hn
    have : n = 128 := by omega
    subst this
    have := val_lt x; rw [Q_seven] at this
    rw [decide_eq_true this]
    exact Ev.step (fun k => by rw [steepleref01_Of.l5]) (Ev.neg (by decide) (Ev.ret _))
  | succ d ih =>
    intro n hn
    have hn' : n < 128 := by omega
    refine Ev.step (fun k => by rw [steepleref01_Of.l5]) ?_
    refine (Ev.pos (by omega) (Ev.bnd (refbit_ev x n hn') ?_))
    simp only [w64_succ hn' (show 128 ≤ 4611686018427387904 by decide)]
    cases c : (val x).testBit n with
    | true =>
      refine Ev.pos (by simp) (Ev.ret' ?_)
      symm; rw [decide_eq_false_iff_not]
      intro h; rw [Nat.testBit_lt_two_pow h] at c; cases c
    | false =>
      refine Ev.neg (by simp) ?_
      have hih := ih (n + 1) (by omega)
      have e : decide (val x < 2 ^ (n + 1)) = decide (val x < 2 ^ n) := by
        rw [decide_eq_decide]
        constructor
        · intro h
          apply Nat.lt_pow_two_of_testBit
          intro i hi
          by_cases e : i = n
          · rw [e]; exact c
          · exact Nat.testBit_lt_two_pow (Nat.lt_of_lt_of_le h (Nat.pow_le_pow_right (by decide) (by omega)))
        · intro h; exact Nat.lt_of_lt_of_le h (Nat.pow_le_pow_right (by decide) (by omega))
      rw [← e]; exact hih
theorem refOf_ev (L : Int) (x : E) : Ev (fun k => steepleref01_Of.f k L (toR x)) (decide (OfS L x)) := by
  unfold steepleref01_Of.f
  by_cases h0 : L < 0
  · refine Ev.pos h0 (Ev.ret' ?_)
    symm; rw [decide_eq_false_iff_not]; rintro ⟨h, _⟩; omega
  refine Ev.neg h0 ?_
  by_cases h7 : L > 7
  · refine Ev.pos h7 (Ev.ret' ?_)
    symm; rw [decide_eq_false_iff_not]; rintro ⟨_, h, _⟩; omega
  refine Ev.neg h7 ?_
  obtain ⟨l, rfl⟩ := Int.eq_ofNat_of_zero_le (show 0 ≤ L by omega)
  refine Ev.pos (Int.natCast_nonneg _) (Ev.pos (by simp; omega) ?_)
  rw [rdL l (by omega)]
  have hp : 2 ^ l ≤ 128 := Nat.pow_le_pow_right (n := 2) (by decide) (show l ≤ 7 by omega)
  have := refOf_l0 x (128 - 2 ^ l) (2 ^ l) (by omega)
  have e : decide (val x < 2 ^ 2 ^ l) = decide (OfS (l : Int) x) := by
    rw [decide_eq_decide]; unfold OfS InL Q; rw [Int.toNat_natCast]
    exact ⟨fun h => ⟨by omega, by omega, h⟩, fun h => h.2.2⟩
  rw [← e]; exact this
/-- All of a level. -/
def AllS (L : Int) (X : List E) : Prop := ∀ x ∈ X, OfS L x
instance (L : Int) (X : List E) : Decidable (AllS L X) := by unfold AllS; infer_instance
theorem allS_drop {L : Int} {X : List E} {i : Nat} (h : i < X.length) : AllS L (X.drop i) ↔ OfS L (X.getD i 0) ∧ AllS L (X.drop (i + 1)) := by
  rw [List.drop_eq_getElem_cons h]
  have : X.getD i 0 = X[i] := by rw [List.getD_eq_getElem?_getD, List.getElem?_eq_getElem h]; rfl
  rw [this]
  exact List.forall_mem_cons
theorem All_l0 (L : Int) (X : List E) (hX : X.length ≤ 1000000) : ∀ (d i : Nat), i + d = X.length → Ev (fun k => steepleref06_All.l2 k L (X.map toR) (i : Int)) (decide (AllS L (X.drop i))) := by
  intro d
  induction d with
  | zero =>
    intro i hi
    refine Ev.step (fun k => by rw [steepleref06_All.l2]) (Ev.neg (by rw [List.length_map]; omega) (Ev.ret' ?_))
    symm; rw [decide_eq_true_eq, List.drop_eq_nil_of_le (by omega)]
    intro x hx; cases hx
  | succ d ih =>
    intro i hi
    have hi' : i < X.length := by omega
    refine Ev.step (fun k => by rw [steepleref06_All.l2]) (Ev.pos (by rw [List.length_map]; omega) (Ev.pos (Int.natCast_nonneg _) (Ev.pos (by rw [List.length_map]; omega) ?_)))
    simp only [rdR, toR_f0, toR_f1, w64_succ hi' (show X.length ≤ 4611686018427387904 by omega)]
    refine Ev.bnd (refOf_ev L _) ?_
    have hd := allS_drop (L := L) hi'
    by_cases c : OfS L (X.getD i 0)
    · refine Ev.neg (by simpa using c) ((ih (i + 1) (by omega)).eqn ?_)
      rw [decide_eq_decide, hd]; exact ⟨fun h => ⟨c, h⟩, fun h => h.2⟩
    · refine Ev.pos (by simpa using c) (Ev.ret' ?_)
      symm; rw [decide_eq_false_iff_not, hd]; exact fun h => c h.1
theorem All_ev (L : Int) (X : List E) (hX : X.length ≤ 1000000) : Ev (fun k => steepleref06_All.f k L (X.map toR)) (decide (AllS L X)) := All_l0 L X hX X.length 0 (by omega)
theorem map_take_succ {α β : Type} (f : α → β) (X : List α) (d : α) (i : Nat) (h : i < X.length) : (X.take (i + 1)).map f = (X.take i).map f ++ [f (X.getD i d)] := by
  rw [List.take_succ_eq_append_getElem h, List.map_append]
  have : X.getD i d = X[i] := by rw [List.getD_eq_getElem?_getD, List.getElem?_eq_getElem h]; rfl
  rw [this]; rfl
theorem Ref_l0 (X : List E) (hX : X.length ≤ 1000000) : ∀ (d i : Nat), i + d = X.length → Ev (fun k => steeplelaw01_Ref.l3 k (X.map toS) (i : Int) ((X.take i).map toR)) (X.map toR) := by
  intro d
  induction d with
  | zero =>
    intro i hi
    refine Ev.step (fun k => by rw [steeplelaw01_Ref.l3]) (Ev.neg (by rw [List.length_map]; omega) (Ev.ret' ?_))
    rw [List.take_of_length_le (by omega)]
  | succ d ih =>
    intro i hi
    have hi' : i < X.length := by omega
    refine Ev.step (fun k => by rw [steeplelaw01_Ref.l3]) (Ev.pos (by rw [List.length_map]; omega) (Ev.pos (Int.natCast_nonneg _) (Ev.pos (by rw [List.length_map]; omega) (Ev.pos (by rw [List.length_map, List.length_take, List.length_singleton]; omega) ?_))))
    simp only [rdS, toS_f0, toS_f1, w64_succ hi' (show X.length ≤ 4611686018427387904 by omega)]
    have hih := ih (i + 1) (by omega)
    rw [map_take_succ toR X 0 i hi'] at hih
    exact hih
theorem Ref_ev (X : List E) (hX : X.length ≤ 1000000) : Ev (fun k => steeplelaw01_Ref.f k (X.map toS)) (X.map toR) := Ref_l0 X hX X.length 0 (by omega)
theorem Same_l0 (X Y : List E) (hl : X.length = Y.length) (hX : X.length ≤ 1000000) : ∀ (d i : Nat), i + d = X.length → (∀ j, j < i → X.getD j 0 = Y.getD j 0) → Ev (fun k => steeplelaw01_Same.l4 k (X.map toS) (Y.map toR) (i : Int)) (decide (X = Y)) := by
  intro d
  induction d with
  | zero =>
    intro i hi h
    refine Ev.step (fun k => by rw [steeplelaw01_Same.l4]) (Ev.neg (by rw [List.length_map]; omega) (Ev.ret' ?_))
    symm; rw [decide_eq_true_eq]
    apply List.ext_getElem hl
    intro j h1 h2
    have := h j (by omega)
    simpa [List.getD_eq_getElem?_getD, h1, h2] using this
  | succ d ih =>
    intro i hid h
    have hi' : i < X.length := by omega
    refine Ev.step (fun k => by rw [steeplelaw01_Same.l4]) (Ev.pos (by rw [List.length_map]; omega) (Ev.pos (Int.natCast_nonneg _) (Ev.pos (by rw [List.length_map]; omega) (Ev.pos (Int.natCast_nonneg _) (Ev.pos (by rw [List.length_map]; omega) ?_)))))
    simp only [rdS, rdR, toS_f0, toS_f1, toR_f0, toR_f1, w64_succ hi' (show X.length ≤ 4611686018427387904 by omega)]
    by_cases c : X.getD i 0 = Y.getD i 0
    · refine Ev.pos (by rw [c]; exact ⟨rfl, rfl⟩) (ih (i + 1) (by omega) (fun j hj => ?_))
      by_cases e : j = i
      · rw [e]; exact c
      · exact h j (by omega)
    · refine Ev.neg (fun h => c (hl_inj h.1 h.2)) (Ev.ret' ?_)
      symm; rw [decide_eq_false_iff_not]
      rintro rfl; exact c rfl
theorem Same_ev (X Y : List E) (hX : X.length ≤ 1000000) : Ev (fun k => steeplelaw01_Same.f k (X.map toS) (Y.map toR)) (decide (X = Y)) := by
  unfold steeplelaw01_Same.f
  by_cases h : X.length = Y.length
  · exact Ev.pos (by rw [List.length_map, List.length_map]; omega) (Same_l0 X Y h hX X.length 0 (by omega) (fun j hj => by omega))
  · refine Ev.neg (by rw [List.length_map, List.length_map]; omega) (Ev.ret' ?_)
    symm; rw [decide_eq_false_iff_not]
    rintro rfl; exact h rfl
/-- The same element? as the program asks. -/
theorem eq_pair (x y : E) : (hi x == hi y && (lo x == lo y)) = decide (x = y) := by
  rw [Bool.eq_iff_iff, Bool.and_eq_true, beq_iff_eq, beq_iff_eq, decide_eq_true_eq]
  exact ⟨fun h => hl_inj h.1 h.2, fun h => by rw [h]; exact ⟨rfl, rfl⟩⟩
theorem eq_none (x : E) : (hi x == 0 && (lo x == 0)) = decide (x = 0) := by
  rw [← eq_pair, hi_zero, lo_zero]
end Go.Proofs.Ytdpbogooceiaaaa.Sp
namespace Go.Proofs.Ytdpbogooceiaaaa.Sp
open Go.Proofs.Ytdpbogooceiaaaa.V.B Go.RowKit Go.Proofs.Ytdpbogooceiaaaa.B Go.Proofs.Ytdpbogooceiaaaa.V.B.Ar Go.Proofs.Ytdpbogooceiaaaa.V.B.Tw
set_option linter.unusedVariables false
set_option linter.unusedSimpArgs false
theorem mask_ev (j : Nat) (hj : j < 6) : Ev (fun k => steepleref02_mask.f k (j : Int)) ((M j 6 : Nat) : Int) := by
  have : ∀ j : Nat, j < 6 → steepleref02_mask.f 0 (j : Int) = some ((M j 6 : Nat) : Int) := by decide +kernel
  exact ⟨0, fun k _ => this j hj⟩
theorem tw_lt {j v : Nat} (hj : j ≤ 6) (hv : v < Q 6) : tw 6 j v < Q 6 := by rw [tw_eq hj hv]; exact val_lt _
theorem shlw (a w : Nat) (hw : w ≤ 64) : shl .u64 (a : Int) (w : Int) = (((a * 2 ^ w) % 2 ^ 64 : Nat) : Int) := by
  unfold shl
  have h64 : IntKind.u64.bits = 64 := rfl
  rw [h64, Int.toNat_natCast, Nat.min_eq_left hw]
  have hc : ((a : Int) * 2 ^ w) = ((a * 2 ^ w : Nat) : Int) := by simp
  rw [hc]
  simp [IntKind.wrap, IntKind.bits, IntKind.signed]
theorem timesWord_ev : ∀ (j : Nat), j ≤ 6 → ∀ (v : Nat), v < Q 6 → Ev (fun k => steepleref02_timesWord.f k ((j : Int) - 1) (v : Int)) ((tw 6 j v : Nat) : Int) := by
  intro j
  induction j with
  | zero =>
    intro _ v hv
    have h0 : (((0 : Nat) : Int) - 1) < 0 := by decide
    refine Ev.step (fun k => by rw [steepleref02_timesWord.f]) (Ev.pos h0 ?_)
    exact Ev.ret' rfl
  | succ j ih =>
    intro hj v hv
    have h32 := two_pow_le_32 (n := j) (by omega)
    have hw : IntKind.u64.wrap (((j + 1 : Nat) : Int) - 1) = (j : Int) := by rw [u64_id (by omega) (by omega)]; omega
    have hw2 : wrap64 (((j + 1 : Nat) : Int) - 1 - 1) = (j : Int) - 1 := by rw [w64_id (by omega) (by omega)]; omega
    have hj1 : (((j + 1 : Nat) : Int) - 1) = (j : Int) := by omega
    have hQ6 : Q 6 = 2 ^ 64 := rfl
    have hM : M j 6 < 2 ^ 64 := by rw [← hQ6]; exact M_lt_Q (by omega)
    have hd : v / 2 ^ 2 ^ j < 2 ^ 64 := Nat.lt_of_le_of_lt (Nat.div_le_self _ _) hv
    have hhi : (v / 2 ^ 2 ^ j) &&& M j 6 < 2 ^ 64 := Nat.and_lt_two_pow _ hM
    have hlo : v &&& M j 6 < 2 ^ 64 := Nat.and_lt_two_pow _ hM
    have hrec := ih (by omega) _ hhi
    have htw : tw 6 j ((v / 2 ^ 2 ^ j) &&& M j 6) < 2 ^ 64 := tw_lt (by omega) hhi
    rw [hj1] at hw hw2 ⊢
    refine Ev.step (fun k => by rw [steepleref02_timesWord.f]) (Ev.neg (by omega) ?_)
    simp only [hw]
    refine Ev.pos (Int.natCast_nonneg _) (Ev.pos (by rw [shl_u64 j (by omega)]; exact Int.natCast_nonneg _) (Ev.bnd (mask_ev j (by omega)) (Ev.bnd (mask_ev j (by omega)) ?_)))
    simp only [shl_u64 j (by omega), shr_u64 v (2 ^ j) (by omega), and_u64 _ _ hd hM, and_u64 _ _ hv hM, hw2]
    refine Ev.bnd hrec (Ev.pos (Int.natCast_nonneg _) (Ev.ret' ?_))
    rw [xor_u64 _ _ hlo htw, shlw _ _ (by omega), or_u64 _ _ (Nat.mod_lt _ (by decide)) hhi]
    rfl
/-- The generator of a level, as an element of the greatest one. -/
def gE (m : Nat) : E := of 7 (val (gen m))
theorem tw_hi {j : Nat} (hj : j ≤ 6) (x : T 6) : tw 6 j (val x) = val (of 6 (val (gen j)) * x) := by rw [tw_eq hj (val_lt x), of_val]
theorem Times_ev (j : Nat) (hj : j ≤ 6) (x : E) : Ev (fun k => steepleref02_Times.f k (j : Int) (toR x)) (toR (gE (j + 1) * x)) := by
  unfold steepleref02_Times.f
  by_cases c : j < 6
  · refine Ev.pos (by omega) ?_
    have h1 := timesWord_ev (j + 1) (by omega) (val x.1) (val_lt x.1)
    have h2 := timesWord_ev (j + 1) (by omega) (val x.2) (val_lt x.2)
    rw [show (((j + 1 : Nat) : Int) - 1) = (j : Int) by omega] at h1 h2
    refine Ev.bnd h1 (Ev.bnd h2 (Ev.ret' ?_))
    have e : gE (j + 1) = up (of 6 (val (gen (j + 1)))) := of_low (Nat.lt_of_lt_of_le (gen_lt (j + 1)) (Q_mono (by omega)))
    rw [e, up_mul_any, tw_hi (by omega), tw_hi (by omega)]; rfl
  · have : j = 6 := by omega
    subst this
    refine Ev.neg (by decide) ?_
    have h1 := timesWord_ev 6 (by omega) (val x.1) (val_lt x.1)
    refine Ev.bnd h1 (Ev.ret' ?_)
    have e : gE 7 = gen 7 := of_val _
    have ev : of 6 (val (gen 6)) = gen 6 := of_val _
    rw [tw_hi (by omega), e, ev]
    unfold toR hi lo
    rw [xor_u64 _ _ (val_lt _) (val_lt _), ← val_add]
    have m1 : (gen 7 * x).1 = x.2 + gen 6 * x.1 := by rw [mul_fst, gen_fst, gen_snd, one_mul, zero_mul, one_mul, add_zero]
    have m2 : (gen 7 * x).2 = x.1 := by rw [mul_snd, gen_fst, gen_snd, one_mul, zero_mul, zero_add]
    rw [m1, m2]
/-- The element with one bit. -/
def bitE (n : Nat) : E := of 7 (2 ^ n)
theorem bitE_hl {n : Nat} (hn : n < 128) : hi (bitE n) = (if n < 64 then 0 else ((2 ^ (n - 64) : Nat) : Int)) ∧ lo (bitE n) = (if n < 64 then ((2 ^ n : Nat) : Int) else 0) := by
  unfold bitE hi lo
  rw [of_succ, mk_fst, mk_snd]
  have hQ : Q 6 = 2 ^ 64 := rfl
  by_cases c : n < 64
  · have h1 : 2 ^ n < Q 6 := by rw [hQ]; exact Nat.pow_lt_pow_right (by decide) c
    rw [if_pos c, if_pos c, Nat.div_eq_of_lt h1, Nat.mod_eq_of_lt h1, val_of _ _ h1, of_zero, val_zero]; exact ⟨rfl, rfl⟩
  · have e : 2 ^ n = 2 ^ (n - 64) * Q 6 + 0 := by rw [hQ, ← Nat.pow_add, Nat.add_zero]; congr 1; omega
    have h2 : 2 ^ (n - 64) < Q 6 := by rw [hQ]; exact Nat.pow_lt_pow_right (by decide) (by omega)
    rw [if_neg c, if_neg c, e, join_div (Q_pos 6), join_mod (Q_pos 6), val_of _ _ h2, of_zero, val_zero]; exact ⟨rfl, rfl⟩
theorem refBit_ev (n : Nat) (hn : n < 128) : Ev (fun k => steepleref02_Bit.f k (n : Int)) (toR (bitE n)) := by
  obtain ⟨h1, h2⟩ := bitE_hl hn
  unfold steepleref02_Bit.f toR
  rw [h1, h2]
  refine Ev.neg (by omega) (Ev.neg (by omega) ?_)
  by_cases c : n < 64
  · rw [if_pos c, if_pos c]
    refine Ev.neg (by omega) ?_
    rw [u64_id (by omega) (by omega)]
    exact Ev.pos (Int.natCast_nonneg _) (Ev.ret' (by rw [shl_u64 n (by omega)]))
  · rw [if_neg c, if_neg c]
    refine Ev.pos (by omega) ?_
    have e : IntKind.u64.wrap (wrap64 ((n : Int) - 64)) = ((n - 64 : Nat) : Int) := by
      rw [w64_id (by omega) (by omega), u64_id (by omega) (by omega)]; omega
    rw [e]
    exact Ev.pos (Int.natCast_nonneg _) (Ev.ret' (by rw [shl_u64 (n - 64) (by omega)]))
theorem and_bit_ne (x n : Nat) : (x &&& 2 ^ n ≠ 0) ↔ x.testBit n = true := by
  constructor
  · intro h
    cases hb : x.testBit n with
    | true => rfl
    | false =>
      exfalso; apply h
      apply Nat.eq_of_testBit_eq
      intro i
      rw [Nat.testBit_and, Nat.zero_testBit]
      by_cases e : i = n
      · subst e; rw [hb, Bool.false_and]
      · rw [Nat.testBit_two_pow_of_ne (by omega), Bool.and_false]
  · intro h e
    have := congrArg (fun z => z.testBit n) e
    simp only [Nat.testBit_and, Nat.testBit_two_pow_self, Bool.and_true, Nat.zero_testBit] at this
    rw [h] at this; cases this
theorem hasBits (x : E) (n : Nat) (hn : n < 128) : ((Go.bits .or .u64 (Go.bits .and .u64 (lo x) (lo (bitE n))) (Go.bits .and .u64 (hi x) (hi (bitE n)))) != 0) = (val x).testBit n := by
  obtain ⟨h1, h2⟩ := bitE_hl hn
  have hx1 := val_lt x.1
  have hx2 := val_lt x.2
  have hQ : Q 6 = 2 ^ 64 := rfl
  rw [hQ] at hx1 hx2
  have hv : val x = 2 ^ 64 * val x.1 + val x.2 := by rw [val_succ, hQ, Nat.mul_comm]
  rw [h1, h2, hv]
  unfold hi lo
  by_cases c : n < 64
  · rw [if_pos c, if_pos c]
    have hp : 2 ^ n < 2 ^ 64 := Nat.pow_lt_pow_right (by decide) c
    have z : (0 : Int) = ((0 : Nat) : Int) := rfl
    rw [z, and_u64 _ _ hx2 hp, and_u64 _ _ hx1 (by decide), or_u64 _ _ (Nat.and_lt_two_pow _ hp) (Nat.and_lt_two_pow _ (by decide)), Nat.and_zero, Nat.or_zero]
    rw [Nat.testBit_two_pow_mul_add _ hx2, if_pos c, Bool.eq_iff_iff, ← and_bit_ne, bne_iff_ne]
    exact ⟨fun h e => h (by rw [e]), fun h e => h (by exact_mod_cast e)⟩
  · rw [if_neg c, if_neg c]
    have hp : 2 ^ (n - 64) < 2 ^ 64 := Nat.pow_lt_pow_right (by decide) (by omega)
    have z : (0 : Int) = ((0 : Nat) : Int) := rfl
    rw [z, and_u64 _ _ hx1 hp, and_u64 _ _ hx2 (by decide), or_u64 _ _ (Nat.and_lt_two_pow _ (by decide)) (Nat.and_lt_two_pow _ hp), Nat.and_zero, Nat.zero_or]
    rw [Nat.testBit_two_pow_mul_add _ hx2, if_neg c, Bool.eq_iff_iff, ← and_bit_ne, bne_iff_ne]
    exact ⟨fun h e => h (by rw [e]), fun h e => h (by exact_mod_cast e)⟩
theorem Has_ev (x : E) (n : Nat) (hn : n < 128) : Ev (fun k => steepleref02_Has.f k (toR x) (n : Int)) ((val x).testBit n) := by
  unfold steepleref02_Has.f
  refine Ev.bnd (refBit_ev n hn) (Ev.ret' (hasBits x n hn))
theorem and_one (n j : Nat) (hn : n < 2 ^ 63) (hj : j ≤ 64) : Go.bits .and .i64 (shr .i64 (n : Int) (j : Int)) 1 = (((n / 2 ^ j) % 2 : Nat) : Int) := by
  rw [shr_i64 n j hj]
  have := and_i64_mask (n / 2 ^ j) 1 (Nat.lt_of_le_of_lt (Nat.div_le_self _ _) hn) (by decide)
  simpa using this
theorem prod_l1 (a b acc : E) (n : Nat) (hn : n < 128) {R : S51} (hk : Ev (fun k => steepleref02_Product.l3 k ((n + 1 : Nat) : Int) (hi a) (lo a) (hi b) (lo b) 0 0 (hi (acc + gp 7 7 n * a)) (lo (acc + gp 7 7 n * a))) R) :
    ∀ (d j : Nat), j + d = 7 → Ev (fun k => steepleref02_Product.l8 k (n : Int) (j : Int) (hi a) (lo a) (hi b) (lo b) 0 0 (hi acc) (lo acc) (hi (gp 7 j n * a)) (lo (gp 7 j n * a))) R := by
  intro d
  induction d with
  | zero =>
    intro j hj
    have : j = 7 := by omega
    subst this
    refine Ev.step (fun k => by rw [steepleref02_Product.l8]) ?_
    refine (Ev.neg (by decide) (Ev.bnd (refAdd_ev acc _) ?_))
    simp only [w64_succ hn (by decide)]
    exact hk
  | succ d ih =>
    intro j hj
    have hu : IntKind.u64.wrap (j : Int) = (j : Int) := u64_id (by omega) (by omega)
    have hih := ih (j + 1) (by omega)
    refine Ev.step (fun k => by rw [steepleref02_Product.l8]) ?_
    refine (Ev.pos (by omega) ?_)
    simp only [hu, and_one n j (Nat.lt_trans hn (by decide)) (by omega), w64_succ (show j < 7 by omega) (by decide)]
    refine Ev.pos (Int.natCast_nonneg _) ?_
    have hgp : gp 7 (j + 1) n = (if n.testBit j then of 7 (val (gen (j + 1))) else 1) * gp 7 j n := rfl
    have htb : n.testBit j = decide ((n / 2 ^ j) % 2 = 1) := by rw [Nat.testBit_eq_decide_div_mod_eq]
    by_cases c : (n / 2 ^ j) % 2 = 1
    · refine Ev.pos (by omega) (Ev.bnd (Times_ev j (by omega) _) ?_)
      rw [hgp, htb, decide_eq_true c, if_pos rfl, mul_assoc] at hih
      exact hih
    · refine Ev.neg (by omega) ?_
      rw [hgp, htb, decide_eq_false c, if_neg (by decide), one_mul] at hih
      exact hih
theorem prod_l0 (a b : E) : ∀ (d n : Nat), n + d = 128 → Ev (fun k => steepleref02_Product.l3 k (n : Int) (hi a) (lo a) (hi b) (lo b) 0 0 (hi (of 7 (val b % 2 ^ n) * a)) (lo (of 7 (val b % 2 ^ n) * a))) (toR (b * a)) := by
  intro d
  induction d with
  | zero =>
    intro n hn
    have : n = 128 := by omega
    subst this
    have hb : val b % 2 ^ 128 = val b := Nat.mod_eq_of_lt (by have := val_lt b; rw [Q_seven] at this; exact this)
    rw [hb, of_val]
    refine Ev.step (fun k => by rw [steepleref02_Product.l3]) ?_
    exact (Ev.neg (by decide) (Ev.ret _))
  | succ d ih =>
    intro n hn
    have hn' : n < 128 := by omega
    have hih := ih (n + 1) (by omega)
    rw [bits_sum (val b) n (val_lt b) (by simpa using hn')] at hih
    refine Ev.step (fun k => by rw [steepleref02_Product.l3]) ?_
    refine (Ev.pos (by omega) (Ev.bnd (Has_ev b n hn') ?_))
    cases c : (val b).testBit n with
    | true =>
      refine Ev.neg (by decide) ?_
      rw [c, if_pos rfl, add_mul, ← gp_bit 7 n (by simpa using hn')] at hih
      have := prod_l1 a b _ n hn' hih 7 0 (by omega)
      have e0 : gp 7 0 n * a = a := one_mul a
      rw [e0] at this
      exact this
    | false =>
      refine Ev.pos rfl ?_
      rw [c, if_neg (by decide), add_zero] at hih
      simp only [w64_succ hn' (by decide)]
      exact hih
theorem Product_ev (x y : E) : Ev (fun k => steepleref02_Product.f k (toR x) (toR y)) (toR (x * y)) := by
  unfold steepleref02_Product.f
  have := prod_l0 x y 128 0 (by decide)
  rw [Nat.pow_zero, Nat.mod_one, of_zero, zero_mul, hi_zero, lo_zero, mul_comm y x] at this
  exact this
end Go.Proofs.Ytdpbogooceiaaaa.Sp
namespace Go.Proofs.Ytdpbogooceiaaaa.Sp
open Go.Proofs.Ytdpbogooceiaaaa.V.B Go.RowKit Go.Proofs.Ytdpbogooceiaaaa.B Go.Proofs.Ytdpbogooceiaaaa.V.B.Ar Go.Proofs.Ytdpbogooceiaaaa.V.B.Tw
set_option linter.unusedVariables false
set_option linter.unusedSimpArgs false
/-- Sums. -/
def sumN (f : Nat → E) : Nat → E
  | 0 => 0
  | n + 1 => sumN f n + f n
theorem sumN_congr {f g : Nat → E} : ∀ n, (∀ i, i < n → f i = g i) → sumN f n = sumN g n
  | 0, _ => rfl
  | n + 1, h => by rw [sumN, sumN, sumN_congr n (fun i hi => h i (by omega)), h n (by omega)]
theorem sumN_add (f g : Nat → E) : ∀ n, sumN (fun i => f i + g i) n = sumN f n + sumN g n
  | 0 => (add_zero _).symm
  | n + 1 => by
    rw [sumN, sumN, sumN, sumN_add f g n]
    simp only [add_assoc, add_left_comm]
theorem sumN_mul (c : E) (f : Nat → E) : ∀ n, sumN (fun i => c * f i) n = c * sumN f n
  | 0 => (mul_zero _).symm
  | n + 1 => by rw [sumN, sumN, sumN_mul c f n, mul_add]
theorem sumN_zero : ∀ n, sumN (fun _ => (0 : E)) n = 0
  | 0 => rfl
  | n + 1 => by rw [sumN, sumN_zero n, add_zero]
theorem sumN_double (f : Nat → E) : ∀ n, sumN f (2 * n) = sumN (fun i => f (2 * i) + f (2 * i + 1)) n
  | 0 => rfl
  | n + 1 => by
    rw [show 2 * (n + 1) = 2 * n + 1 + 1 by omega, sumN, sumN, sumN, sumN_double f n, add_assoc]
theorem sumN_split (f : Nat → E) (m : Nat) : ∀ n, sumN f (m + n) = sumN f m + sumN (fun i => f (m + i)) n
  | 0 => (add_zero _).symm
  | n + 1 => by rw [← Nat.add_assoc, sumN, sumN, sumN_split f m n, add_assoc]
/-- A corner's weight at a point. -/
def weight : List E → Nat → E
  | [], _ => 1
  | p :: ps, i => (if i % 2 = 1 then p else 1 + p) * weight ps (i / 2)
/-- A table's value at a point. -/
def value (X P : List E) : E := sumN (fun i => X.getD i 0 * weight P i) X.length
/-- A table bound in its first variable. -/
def first (r : E) (X : List E) : List E := (List.range (X.length / 2)).map fun i => X.getD (2 * i) 0 + r * (X.getD (2 * i) 0 + X.getD (2 * i + 1) 0)
def firsts : List E → List E → List E
  | [], X => X
  | r :: rs, X => firsts rs (first r X)
theorem first_length (r : E) (X : List E) : (first r X).length = X.length / 2 := by simp [first]
theorem first_getD (r : E) (X : List E) (i : Nat) (h : i < X.length / 2) : (first r X).getD i 0 = X.getD (2 * i) 0 + r * (X.getD (2 * i) 0 + X.getD (2 * i + 1) 0) := by
  rw [List.getD_eq_getElem?_getD]; simp [first, h]
theorem between_eq (a b r : E) : a + r * (a + b) = (1 + r) * a + r * b := by
  rw [add_mul, one_mul, mul_add, add_assoc]
theorem value_first (X : List E) (r : E) (P : List E) (h : X.length = 2 * (X.length / 2)) : value X (r :: P) = value (first r X) P := by
  unfold value
  rw [first_length]
  conv => lhs; rw [h]
  rw [sumN_double]
  apply sumN_congr
  intro i hi
  rw [first_getD r X i hi, weight, weight, if_neg (by omega), if_pos (by omega), show 2 * i / 2 = i by omega, show (2 * i + 1) / 2 = i by omega, between_eq]
  rw [← mul_assoc, ← mul_assoc, mul_comm (X.getD (2 * i) 0), mul_comm (X.getD (2 * i + 1) 0), ← add_mul]
theorem pow_len {X : List E} {k : Nat} (h : X.length = 2 ^ (k + 1)) : X.length = 2 * (X.length / 2) := by rw [h, Nat.pow_succ]; omega
theorem firsts_length : ∀ (R X : List E) (k : Nat), X.length = 2 ^ k → R.length ≤ k → (firsts R X).length = 2 ^ (k - R.length)
  | [], X, k, h, _ => by rw [firsts, h]; rfl
  | r :: rs, X, k, h, hk => by
    rw [List.length_cons] at hk
    obtain ⟨k', rfl⟩ : ∃ k', k = k' + 1 := ⟨k - 1, by omega⟩
    rw [firsts, firsts_length rs (first r X) k' (by rw [first_length, h, Nat.pow_succ]; omega) (by omega), List.length_cons]
    congr 1; omega
theorem value_firsts : ∀ (R X P : List E) (k : Nat), X.length = 2 ^ k → R.length ≤ k → value X (R ++ P) = value (firsts R X) P
  | [], X, P, k, _, _ => rfl
  | r :: rs, X, P, k, h, hk => by
    rw [List.length_cons] at hk
    obtain ⟨k', rfl⟩ : ∃ k', k = k' + 1 := ⟨k - 1, by omega⟩
    rw [List.cons_append, value_first X r (rs ++ P) (pow_len h), firsts]
    exact value_firsts rs (first r X) P k' (by rw [first_length, h, Nat.pow_succ]; omega) (by omega)
theorem value_nil {X : List E} (h : X.length = 1) : value X [] = X.getD 0 0 := by
  unfold value; rw [h, sumN, sumN, zero_add, weight, mul_one]
theorem value_eq (X P : List E) (h : X.length = 2 ^ P.length) : value X P = (firsts P X).getD 0 0 := by
  have := value_firsts P X [] P.length h (Nat.le_refl _)
  rw [List.append_nil] at this
  rw [this, value_nil (by rw [firsts_length P X P.length h (Nat.le_refl _), Nat.sub_self, Nat.pow_zero])]

/-- k of 2^k, as both tell it. -/
theorem map_set {α β : Type} (f : α → β) (X : List α) (i : Nat) (x : α) : (X.map f).set i (f x) = (X.set i x).map f := by rw [List.map_set]
theorem toS_mk (x : E) : (⟨hi x, lo x⟩ : S38) = toS x := rfl
theorem toR_mk (x : E) : (⟨hi x, lo x⟩ : S51) = toR x := rfl
theorem getD_set_self {X : List E} {i : Nat} (h : i < X.length) (x : E) : (X.set i x).getD i 0 = x := by
  rw [List.getD_eq_getElem?_getD, List.getElem?_set_self h]; rfl
theorem getD_set_ne {X : List E} {i j : Nat} (h : i ≠ j) (x : E) : (X.set i x).getD j 0 = X.getD j 0 := by
  rw [List.getD_eq_getElem?_getD, List.getD_eq_getElem?_getD, List.getElem?_set_ne h]
theorem ext_getD {X Y : List E} (hl : X.length = Y.length) (h : ∀ i, i < X.length → X.getD i 0 = Y.getD i 0) : X = Y := by
  apply List.ext_getElem hl
  intro j h1 h2
  have := h j h1
  simpa [List.getD_eq_getElem?_getD, h1, h2] using this
theorem getD_take {X : List E} {i m : Nat} (h : i < m) : (X.take m).getD i 0 = X.getD i 0 := by
  rw [List.getD_eq_getElem?_getD, List.getD_eq_getElem?_getD, List.getElem?_take_of_lt h]
theorem allS_getD {l : Nat} {X : List E} (h : AllS (l : Int) X) (i : Nat) : InL l (X.getD i 0) := by
  rw [List.getD_eq_getElem?_getD]
  by_cases c : i < X.length
  · rw [List.getElem?_eq_getElem c]
    have := (h _ (List.getElem_mem c)).2.2
    rw [Int.toNat_natCast] at this; exact this
  · rw [List.getElem?_eq_none (by omega)]; exact inL_zero l
theorem allS_first {l : Nat} (hl : l ≤ 7) {X : List E} {r : E} (hX : AllS (l : Int) X) (hr : InL l r) : AllS (l : Int) (first r X) := by
  intro x hx
  unfold first at hx
  rw [List.mem_map] at hx
  obtain ⟨i, _, rfl⟩ := hx
  refine ⟨by omega, by omega, ?_⟩
  rw [Int.toNat_natCast]
  exact inL_add (allS_getD hX _) (inL_mul hl hr (inL_add (allS_getD hX _) (allS_getD hX _)))
theorem half_len (n : Nat) (h : n ≤ 1000000) : wrap64 ((n : Int) / 2) = ((n / 2 : Nat) : Int) := by rw [w64_id (by omega) (by omega)]; omega
theorem w64_dbl {i : Nat} (h : i ≤ 1000000) : wrap64 (2 * (i : Int)) = ((2 * i : Nat) : Int) := by rw [w64_id (by omega) (by omega)]; omega
end Go.Proofs.Ytdpbogooceiaaaa.Sp
namespace Go.Proofs.Ytdpbogooceiaaaa.Sp
open Go.Proofs.Ytdpbogooceiaaaa.V.B Go.RowKit Go.Proofs.Ytdpbogooceiaaaa.B Go.Proofs.Ytdpbogooceiaaaa.V.B.Ar Go.Proofs.Ytdpbogooceiaaaa.V.B.Tw
set_option linter.unusedVariables false
/-- The pair of x and y: y beside each bit that x has. -/
def pick (b : Bool) (y : E) : E := if b then y else 0
theorem pick_true (y : E) : pick true y = y := if_pos rfl
theorem pick_false (y : E) : pick false y = 0 := if_neg Bool.false_ne_true
def pairX (n : Nat) (x y : E) : List E := (List.range n).map fun i => pick ((val x).testBit i) y
theorem pairX_length (n : Nat) (x y : E) : (pairX n x y).length = n := by simp [pairX]
theorem getD_rangeM {α : Type} (f : Nat → α) (d : α) (n i : Nat) (h : i < n) : ((List.range n).map f).getD i d = f i := by
  rw [List.getD_eq_getElem?_getD, List.getElem?_map, List.getElem?_range h]; rfl
theorem range_succM {α : Type} (f : Nat → α) (n : Nat) : (List.range (n + 1)).map f = (List.range n).map f ++ [f n] := by
  rw [List.range_succ, List.map_append]; rfl
theorem pairX_getD (n : Nat) (x y : E) (i : Nat) (h : i < n) : (pairX n x y).getD i 0 = pick ((val x).testBit i) y := getD_rangeM (fun i => pick ((val x).testBit i) y) 0 n i h
theorem pairX_succ (n : Nat) (x y : E) : pairX (n + 1) x y = pairX n x y ++ [pick ((val x).testBit n) y] := range_succM _ n
theorem w128 {l : Nat} (hl : l ≤ 7) : 2 ^ l ≤ 128 := Nat.pow_le_pow_right (n := 2) (by decide) hl
theorem lv_of {L : Int} {x : E} (h : OfS L x) : LvS L := ⟨h.1, h.2.1⟩
theorem rep_zero (n : Nat) : List.replicate n z38 = (List.replicate n (0 : E)).map toS := by rw [List.map_replicate, toS_zero]
def leftO (L : Int) (x : E) : List E := if OfS L x then pairX (2 ^ L.toNat) x 1 else []
def rightO (L : Int) (x : E) : List E := if OfS L x then pairX (2 ^ L.toNat) 1 x else []
theorem one_bit (i : Nat) : (val (1 : E)).testBit i = decide (i = 0) := by
  rw [val_one, show (1 : Nat) = 2 ^ 0 from rfl, Nat.testBit_two_pow]
  simp [eq_comm]
theorem pairX_one (n : Nat) (x : E) (hn : 0 < n) : pairX n 1 x = (List.replicate n (0 : E)).set 0 x := by
  apply List.ext_getElem
  · rw [pairX_length]; simp
  · intro i h1 h2
    rw [pairX_length] at h1
    have e1 : (pairX n 1 x)[i] = (pairX n 1 x).getD i 0 := by rw [List.getD_eq_getElem?_getD, List.getElem?_eq_getElem (by rw [pairX_length]; exact h1)]; rfl
    rw [e1, pairX_getD n 1 x i h1, one_bit, List.getElem_set]
    by_cases c : i = 0
    · subst c; simp [pick_true]
    · rw [decide_eq_false c, pick_false, if_neg (fun h => c h.symm), List.getElem_replicate]
end Go.Proofs.Ytdpbogooceiaaaa.Sp
namespace Go.Proofs.Ytdpbogooceiaaaa.Sp
open Go.Proofs.Ytdpbogooceiaaaa.V.B Go.RowKit Go.Proofs.Ytdpbogooceiaaaa.B Go.Proofs.Ytdpbogooceiaaaa.V.B.Ar Go.Proofs.Ytdpbogooceiaaaa.V.B.Tw
set_option linter.unusedVariables false
theorem pick_add (b : Bool) (y z : E) : pick b (y + z) = pick b y + pick b z := by
  cases b
  · rw [pick_false, pick_false, pick_false, add_zero]
  · rw [pick_true, pick_true, pick_true]
theorem pick_mul (b : Bool) (y z : E) : pick b (y * z) = pick b y * z := by
  cases b
  · rw [pick_false, pick_false, zero_mul]
  · rw [pick_true, pick_true]
theorem pick_zero (b : Bool) : pick b (0 : E) = 0 := by
  cases b
  · exact pick_false _
  · exact pick_true _
theorem pick_xor (a b : Bool) (y : E) : pick (a ^^ b) y = pick a y + pick b y := by
  cases a <;> cases b
  · show pick false y = _; rw [pick_false, add_zero]
  · show pick true y = _; rw [pick_false, pick_true, zero_add]
  · show pick true y = _; rw [pick_false, pick_true, add_zero]
  · show pick false y = _; rw [pick_false, pick_true, add_self]
theorem pick_comm (a b : Bool) (y : E) : pick a (pick b y) = pick b (pick a y) := by
  cases a <;> cases b <;> simp only [pick_true, pick_false]
/-- Has an element the bit? -/
def hasB (x : E) (k : Nat) : Bool := (val x).testBit k
theorem hasB_add (x y : E) (k : Nat) : hasB (x + y) k = (hasB x k ^^ hasB y k) := by
  unfold hasB; rw [val_add, Nat.testBit_xor]
theorem hasB_zero (k : Nat) : hasB 0 k = false := by unfold hasB; rw [val_zero, Nat.zero_testBit]
/-- What the bit k of z picks of y is a sum in z. -/
theorem pick_hasB_add (x z y : E) (k : Nat) : pick (hasB (x + z) k) y = pick (hasB x k) y + pick (hasB z k) y := by rw [hasB_add, pick_xor]
theorem pick_hasB_sum (f : Nat → E) (y : E) (k : Nat) : ∀ n, pick (hasB (sumN f n) k) y = sumN (fun u => pick (hasB (f u) k) y) n
  | 0 => by rw [sumN, sumN, hasB_zero, pick_false]
  | n + 1 => by rw [sumN, sumN, pick_hasB_add, pick_hasB_sum f y k n]
theorem pick_hasB_pick (b : Bool) (x y : E) (k : Nat) : pick (hasB (pick b x) k) y = pick b (pick (hasB x k) y) := by
  cases b
  · rw [pick_false, pick_false, hasB_zero, pick_false]
  · rw [pick_true, pick_true]
theorem pick_sum (b : Bool) (f : Nat → E) : ∀ n, pick b (sumN f n) = sumN (fun u => pick b (f u)) n
  | 0 => pick_zero b
  | n + 1 => by rw [sumN, sumN, pick_add, pick_sum b f n]
theorem sumN_mulr (c : E) (f : Nat → E) (n : Nat) : sumN (fun i => f i * c) n = sumN f n * c := by
  rw [mul_comm, ← sumN_mul]
  exact sumN_congr n (fun i _ => mul_comm _ _)
theorem sumN_swap (f : Nat → Nat → E) (n : Nat) : ∀ m, sumN (fun i => sumN (fun j => f i j) m) n = sumN (fun j => sumN (fun i => f i j) n) m
  | 0 => sumN_zero n
  | m + 1 => by
    rw [sumN, ← sumN_swap f n m, ← sumN_add]
    exact sumN_congr n (fun i _ => rfl)
theorem sumN_one (f : Nat → E) (n i : Nat) (hi : i < n) (h : ∀ j, j < n → j ≠ i → f j = 0) : sumN f n = f i := by
  induction n with
  | zero => omega
  | succ n ih =>
    rw [sumN]
    by_cases c : i = n
    · subst c
      have : sumN f i = 0 := by
        rw [sumN_congr (g := fun _ => 0) i (fun j hj => h j (by omega) (by omega))]; exact sumN_zero i
      rw [this, zero_add]
    · rw [ih (by omega) (fun j hj hne => h j (by omega) hne), h n (by omega) (fun e => c e.symm), add_zero]
theorem val_bitE {n : Nat} (hn : n < 128) : val (bitE n) = 2 ^ n := by
  unfold bitE
  exact val_of 7 _ (by rw [Q_seven]; exact Nat.pow_lt_pow_right (by decide) hn)
theorem val_pick (b : Bool) (x : E) : val (pick b x) = if b then val x else 0 := by
  cases b
  · rw [pick_false, val_zero]; rfl
  · rw [pick_true]; rfl
/-- An element is the sum of its bits. -/
theorem val_expand (x : E) : ∀ n, n ≤ 128 → val (sumN (fun u => pick (hasB x u) (bitE u)) n) = val x % 2 ^ n
  | 0, _ => by rw [sumN, val_zero, Nat.pow_zero, Nat.mod_one]
  | n + 1, h => by
    rw [sumN, val_add, val_expand x n (by omega), val_pick, val_bitE (by omega)]
    apply Nat.eq_of_testBit_eq
    intro j
    rw [Nat.testBit_xor, Nat.testBit_mod_two_pow, Nat.testBit_mod_two_pow]
    show _ = _
    unfold hasB
    generalize val x = v
    by_cases c : j = n
    · subst c
      cases hb : v.testBit j with
      | true => rw [if_pos rfl, Nat.testBit_two_pow_self]; simp
      | false => rw [if_neg Bool.false_ne_true, Nat.zero_testBit]; simp
    · have h2 : (if v.testBit n then 2 ^ n else 0 : Nat).testBit j = false := by
        cases v.testBit n with
        | true => rw [if_pos rfl, Nat.testBit_two_pow]; simp; omega
        | false => rw [if_neg Bool.false_ne_true, Nat.zero_testBit]
      rw [h2, Bool.xor_false]
      have : decide (j < n + 1) = decide (j < n) := by rw [decide_eq_decide]; omega
      rw [this]
theorem expand {l : Nat} (hl : l ≤ 7) {x : E} (hx : InL l x) : sumN (fun u => pick (hasB x u) (bitE u)) (2 ^ l) = x := by
  apply val_inj
  rw [val_expand x (2 ^ l) (w128 hl)]
  exact Nat.mod_eq_of_lt hx
theorem bitE_in {l u : Nat} (hl : l ≤ 7) (hu : u < 2 ^ l) : InL l (bitE u) := by
  unfold InL Q
  rw [val_bitE (Nat.lt_of_lt_of_le hu (w128 hl))]
  exact Nat.pow_lt_pow_right (by decide) hu
theorem bitE_zero : bitE 0 = 1 := by
  apply val_inj; rw [val_bitE (by decide), val_one]
/-- The bits of a product are sums of those of the products of bits. -/
theorem has_mul {l : Nat} (hl : l ≤ 7) {x : E} (hx : InL l x) (a y : E) (k : Nat) : sumN (fun u => pick (hasB x u) (pick (hasB (bitE u * a) k) y)) (2 ^ l) = pick (hasB (x * a) k) y := by
  have h1 : x * a = sumN (fun u => pick (hasB x u) (bitE u * a)) (2 ^ l) := by
    conv => lhs; rw [← expand hl hx]
    rw [← sumN_mulr]
    exact sumN_congr _ (fun u _ => (pick_mul _ _ _).symm)
  rw [h1, pick_hasB_sum]
  exact sumN_congr _ (fun u _ => (pick_hasB_pick _ _ _ _).symm)
/-- Part k of a tensor times an element on the left, its parts times another one. -/
def actT (n : Nat) (t : Nat → E) (a p : E) (k : Nat) : E := sumN (fun u => pick (hasB (bitE u * a) k) (t u * p)) n
theorem actT_pair {l : Nat} (hl : l ≤ 7) {x : E} (hx : InL l x) (y a p : E) (k : Nat) : actT (2 ^ l) (fun u => pick (hasB x u) y) a p k = pick (hasB (x * a) k) (y * p) := by
  unfold actT
  rw [← has_mul hl hx a (y * p) k]
  exact sumN_congr _ (fun u _ => by rw [← pick_mul, pick_comm])
theorem actT_congr (n : Nat) {t s : Nat → E} (a p : E) (k : Nat) (h : ∀ u, u < n → t u = s u) : actT n t a p k = actT n s a p k := by
  unfold actT; exact sumN_congr _ (fun u hu => by rw [h u hu])
theorem actT_sum (n m : Nat) (t : Nat → Nat → E) (a p : E) (k : Nat) : actT n (fun u => sumN (fun i => t i u) m) a p k = sumN (fun i => actT n (t i) a p k) m := by
  unfold actT
  rw [sumN_swap (fun i u => pick (hasB (bitE u * a) k) (t i u * p)) m n]
  exact sumN_congr _ (fun u _ => by rw [← sumN_mulr, pick_sum])
theorem actT_add (n : Nat) (t s : Nat → E) (a p : E) (k : Nat) : actT n (fun u => t u + s u) a p k = actT n t a p k + actT n s a p k := by
  unfold actT
  rw [← sumN_add]
  exact sumN_congr _ (fun u _ => by rw [add_mul, pick_add])
theorem pick_in {l : Nat} {x : E} (b : Bool) (h : InL l x) : InL l (pick b x) := by
  cases b
  · rw [pick_false]; exact inL_zero l
  · rw [pick_true]; exact h
theorem sumN_in {l : Nat} (f : Nat → E) : ∀ n, (∀ i, i < n → InL l (f i)) → InL l (sumN f n)
  | 0, _ => inL_zero l
  | n + 1, h => by rw [sumN]; exact inL_add (sumN_in f n (fun i hi => h i (by omega))) (h n (by omega))
theorem actT_in {l : Nat} (hl : l ≤ 7) (n : Nat) (t : Nat → E) (a p : E) (k : Nat) (ht : ∀ u, u < n → InL l (t u)) (hp : InL l p) : InL l (actT n t a p k) :=
  sumN_in _ n (fun u hu => pick_in _ (inL_mul hl (ht u hu) hp))
/-- Weights, variable by variable from behind. -/
theorem weight_in {l : Nat} (hl : l ≤ 7) : ∀ (P : List E) (i : Nat), (∀ p ∈ P, InL l p) → InL l (weight P i)
  | [], i, _ => inL_one l
  | p :: ps, i, h => by
    have hp := h p List.mem_cons_self
    rw [weight]
    refine inL_mul hl ?_ (weight_in hl ps (i / 2) (fun q hq => h q (List.mem_cons_of_mem _ hq)))
    split
    · exact hp
    · exact inL_add (inL_one l) hp
theorem weight_snoc (p : E) : ∀ (P : List E) (i : Nat), weight (P ++ [p]) i = weight P i * (if i / 2 ^ P.length % 2 = 1 then p else 1 + p)
  | [], i => by
    show weight (p :: []) i = weight [] i * _
    rw [weight, weight, weight, mul_one, one_mul]
    simp
  | q :: Q, i => by
    show weight (q :: (Q ++ [p])) i = weight (q :: Q) i * _
    rw [weight, weight, weight_snoc p Q (i / 2), mul_assoc, Nat.div_div_eq_div_mul, List.length_cons, Nat.pow_succ, Nat.mul_comm 2]
theorem weight_high (b : Nat) : ∀ (P : List E) (i : Nat), i < 2 ^ P.length → weight P (2 ^ P.length * b + i) = weight P i
  | [], i, _ => rfl
  | q :: Q, i, h => by
    rw [List.length_cons, Nat.pow_succ] at h
    have e1 : (2 ^ (q :: Q).length * b + i) % 2 = i % 2 := by
      rw [List.length_cons, Nat.pow_succ, Nat.mul_comm (2 ^ Q.length) 2, Nat.mul_assoc]; omega
    have e2 : (2 ^ (q :: Q).length * b + i) / 2 = 2 ^ Q.length * b + i / 2 := by
      rw [List.length_cons, Nat.pow_succ, Nat.mul_comm (2 ^ Q.length) 2, Nat.mul_assoc]; omega
    rw [weight, weight, e1, e2, weight_high b Q (i / 2) (by omega)]
theorem weight_low (p : E) (P : List E) (i : Nat) (h : i < 2 ^ P.length) : weight (P ++ [p]) i = weight P i * (1 + p) := by
  rw [weight_snoc, Nat.div_eq_of_lt h]; rfl
theorem weight_up (p : E) (P : List E) (i : Nat) (h : i < 2 ^ P.length) : weight (P ++ [p]) (2 ^ P.length + i) = weight P i * p := by
  have h0 := weight_high 1 P i h
  rw [Nat.mul_one] at h0
  have e : (2 ^ P.length + i) / 2 ^ P.length % 2 = 1 := by
    rw [Nat.add_div_left _ (Nat.two_pow_pos _), Nat.div_eq_of_lt h]
  rw [weight_snoc, h0, e]; rfl
/-- How alike two points are, part by part. -/
def alikeX (P R : List E) (k : Nat) : E := sumN (fun i => pick (hasB (weight P i) k) (weight R i)) (2 ^ P.length)
theorem alikeX_nil (k : Nat) : alikeX [] [] k = pick (hasB 1 k) 1 := by
  unfold alikeX
  show sumN _ 1 = _
  rw [sumN, sumN, zero_add]; rfl
theorem alikeX_snoc {l : Nat} (hl : l ≤ 7) (P R : List E) (p r : E) (hP : ∀ x ∈ P, InL l x) (hlen : P.length = R.length) (k : Nat) :
    alikeX (P ++ [p]) (R ++ [r]) k = alikeX P R k + actT (2 ^ l) (alikeX P R) p 1 k + alikeX P R k * r := by
  have e1 : actT (2 ^ l) (alikeX P R) p 1 k = sumN (fun i => pick (hasB (weight P i * p) k) (weight R i)) (2 ^ P.length) := by
    unfold alikeX
    rw [actT_sum]
    exact sumN_congr _ (fun i _ => by rw [actT_pair hl (weight_in hl P i hP), mul_one])
  have e2 : alikeX P R k * r = sumN (fun i => pick (hasB (weight P i) k) (weight R i * r)) (2 ^ P.length) := by
    unfold alikeX
    rw [← sumN_mulr]
    exact sumN_congr _ (fun i _ => (pick_mul _ _ _).symm)
  rw [e1, e2]
  unfold alikeX
  rw [← sumN_add, ← sumN_add, List.length_append, List.length_singleton, Nat.pow_succ, Nat.mul_two, sumN_split, ← sumN_add]
  apply sumN_congr
  intro i hi
  have hi' : i < 2 ^ R.length := by rw [← hlen]; exact hi
  rw [weight_low p P i hi, weight_up p P i hi, weight_low r R i hi', show 2 ^ P.length + i = 2 ^ R.length + i by rw [hlen], weight_up r R i hi']
  generalize weight P i = w
  generalize weight R i = v
  rw [mul_add, mul_add, mul_one, mul_one, pick_hasB_add, pick_add, pick_add]
  generalize pick (hasB w k) v = a
  generalize pick (hasB (w * p) k) v = b
  generalize pick (hasB w k) (v * r) = c
  generalize pick (hasB (w * p) k) (v * r) = d
  have : a + c + (b + d) + d = a + b + c := by
    rw [add_assoc (a + c), add_assoc b d d, add_self, add_zero, add_assoc a c b, add_comm c b, ← add_assoc]
  exact this
end Go.Proofs.Ytdpbogooceiaaaa.Sp
namespace Go.Proofs.Ytdpbogooceiaaaa.Sp
open Go.Proofs.Ytdpbogooceiaaaa.V.B Go.RowKit Go.Proofs.Ytdpbogooceiaaaa.B Go.Proofs.Ytdpbogooceiaaaa.V.B.Ar Go.Proofs.Ytdpbogooceiaaaa.V.B.Tw
set_option linter.unusedVariables false
/-- A list of so many elements. -/
def tabL (n : Nat) (f : Nat → E) : List E := (List.range n).map f
theorem tabL_length (n : Nat) (f : Nat → E) : (tabL n f).length = n := by simp [tabL]
theorem tabL_getD (n : Nat) (f : Nat → E) (i : Nat) (h : i < n) : (tabL n f).getD i 0 = f i := getD_rangeM f 0 n i h
theorem tabL_congr (n : Nat) {f g : Nat → E} (h : ∀ i, i < n → f i = g i) : tabL n f = tabL n g := by
  unfold tabL
  apply List.map_congr_left
  intro i hi
  exact h i (List.mem_range.1 hi)
theorem tabL_self (X : List E) : tabL X.length (fun i => X.getD i 0) = X := by
  apply ext_getD (tabL_length _ _)
  intro i hi
  rw [tabL_length] at hi
  exact tabL_getD _ _ i hi
theorem tabL_set (n : Nat) (f g : Nat → E) (i : Nat) (hi : i < n) (hg : ∀ k, k < n → k ≠ i → g k = f k) : (tabL n f).set i (g i) = tabL n g := by
  apply ext_getD
  · rw [List.length_set, tabL_length, tabL_length]
  · intro k hk
    rw [List.length_set, tabL_length] at hk
    rw [tabL_getD n g k hk]
    by_cases c : i = k
    · subst c
      exact getD_set_self (by rw [tabL_length]; exact hi) _
    · rw [getD_set_ne c, tabL_getD n f k hk, hg k hk (fun e => c e.symm)]
theorem tabL_replicate (n : Nat) : List.replicate n (0 : E) = tabL n (fun _ => 0) := by
  apply ext_getD
  · rw [List.length_replicate, tabL_length]
  · intro i hi
    rw [List.length_replicate] at hi
    rw [tabL_getD n _ i hi, List.getD_eq_getElem?_getD, List.getElem?_replicate, if_pos hi]; rfl
theorem tabL_all {l : Nat} (hl : l ≤ 7) (n : Nat) (f : Nat → E) (h : ∀ i, i < n → InL l (f i)) : AllS (l : Int) (tabL n f) := by
  intro x hx
  unfold tabL at hx
  obtain ⟨i, hi, rfl⟩ := List.mem_map.1 hx
  exact ⟨by omega, by omega, by rw [Int.toNat_natCast]; exact h i (List.mem_range.1 hi)⟩
theorem ofS_of {l : Nat} (hl : l ≤ 7) {x : E} (h : InL l x) : OfS (l : Int) x := ⟨by omega, by omega, by rw [Int.toNat_natCast]; exact h⟩
theorem inL_of {l : Nat} {x : E} (h : OfS (l : Int) x) : InL l x := by have := h.2.2; rwa [Int.toNat_natCast] at this
/-- One product's bits, each with y, added to what there is. -/
def bitAdd (f : Nat → E) (z y : E) (i k : Nat) : E := f k + pick (decide (k < i) && hasB z k) y
theorem bitAdd_zero (f : Nat → E) (z y : E) (k : Nat) : bitAdd f z y 0 k = f k := by
  unfold bitAdd
  rw [decide_eq_false (Nat.not_lt_zero k), Bool.false_and, pick_false, add_zero]
theorem bitAdd_at (f : Nat → E) (z y : E) (i : Nat) : bitAdd f z y i i = f i := by
  unfold bitAdd
  rw [decide_eq_false (Nat.lt_irrefl i), Bool.false_and, pick_false, add_zero]
theorem bitAdd_next (f : Nat → E) (z y : E) (i k : Nat) (h : k ≠ i) : bitAdd f z y (i + 1) k = bitAdd f z y i k := by
  unfold bitAdd
  have : decide (k < i + 1) = decide (k < i) := by rw [decide_eq_decide]; omega
  rw [this]
theorem bitAdd_now (f : Nat → E) (z y : E) (i : Nat) : bitAdd f z y (i + 1) i = f i + pick (hasB z i) y := by
  unfold bitAdd
  rw [decide_eq_true (Nat.lt_succ_self i), Bool.true_and]
theorem bitAdd_end (f : Nat → E) (z y : E) (n k : Nat) (h : k < n) : bitAdd f z y n k = f k + pick (hasB z k) y := by
  unfold bitAdd
  rw [decide_eq_true h, Bool.true_and]
-- @IF packvbyLeft
end Go.Proofs.Ytdpbogooceiaaaa.Sp
namespace Go.Proofs.Ytdpbogooceiaaaa.Sp
open Go.Proofs.Ytdpbogooceiaaaa.V.B Go.RowKit Go.Proofs.Ytdpbogooceiaaaa.B Go.Proofs.Ytdpbogooceiaaaa.V.B.Ar Go.Proofs.Ytdpbogooceiaaaa.V.B.Tw
set_option linter.unusedVariables false
set_option linter.unusedSimpArgs false
/-- The number of the first element that is not P, or -1. -/
theorem index_gen {l : Nat → List S38 → Int → Int → Int → Option Int} {p : Nat → S38 → Option Int → Option Bool} {P : E → Prop} [DecidablePred P] {a : Int}
    (hs : ∀ k xs n i, l (k + 1) xs a n i = if i < n then (if 0 ≤ i then (if i < (xs.length : Int) then ((p k (rd38 xs i) (some a)).bind fun r => if r = true then some i else l k xs a n (wrap64 (i + 1))) else none) else none) else some (-1))
    (hp : ∀ x, Ev (fun k => p k (toS x) (some a)) (decide (¬ P x))) (X : List E) (hX : X.length ≤ 4611686018427387904) : ∀ (d i : Nat), i + d = X.length →
    ∃ r : Int, Ev (fun k => l k (X.map toS) a (X.length : Int) (i : Int)) r ∧ (r ≥ 0 ↔ ¬ ∀ x ∈ X.drop i, P x) := by
  intro d
  induction d with
  | zero =>
    intro i hi
    refine ⟨-1, Ev.step (fun k => hs k _ _ _) (Ev.neg (by omega) (Ev.ret _)), ?_⟩
    rw [List.drop_eq_nil_of_le (by omega)]
    exact ⟨fun h => absurd h (by decide), fun h => absurd (fun x hx => by cases hx) h⟩
  | succ d ih =>
    intro i hi
    have hi' : i < X.length := by omega
    obtain ⟨r, h1, h2⟩ := ih (i + 1) (by omega)
    have hd : (∀ x ∈ X.drop i, P x) ↔ P (X.getD i 0) ∧ ∀ x ∈ X.drop (i + 1), P x := by
      rw [List.drop_eq_getElem_cons hi']
      have : X.getD i 0 = X[i] := by rw [List.getD_eq_getElem?_getD, List.getElem?_eq_getElem hi']; rfl
      rw [this]
      exact List.forall_mem_cons
    have go : ∀ {r : Int}, Ev (fun k => (p k (rd38 (X.map toS) (i : Int)) (some a)).bind fun r => if r = true then some (i : Int) else l k (X.map toS) a (X.length : Int) (wrap64 ((i : Int) + 1))) r → Ev (fun k => l k (X.map toS) a (X.length : Int) (i : Int)) r := fun h =>
      Ev.step (fun k => hs k _ _ _) (Ev.pos (by omega) (Ev.pos (Int.natCast_nonneg _) (Ev.pos (by rw [List.length_map]; omega) h)))
    simp only [rdS, w64_succ hi' hX] at go
    by_cases c : P (X.getD i 0)
    · refine ⟨r, go (Ev.bnd (hp _) (Ev.neg (by simpa using c) h1)), h2.trans ?_⟩
      rw [hd]
      exact ⟨fun h g => h g.2, fun h g => h ⟨c, g⟩⟩
    · refine ⟨(i : Int), go (Ev.bnd (hp _) (Ev.pos (by simpa using c) (Ev.ret _))), ?_⟩
      rw [hd]
      exact ⟨fun _ g => c g.1, fun _ => Int.natCast_nonneg _⟩
end Go.Proofs.Ytdpbogooceiaaaa.Sp
namespace Go.Proofs.Ytdpbogooceiaaaa.Sp
open Go.Proofs.Ytdpbogooceiaaaa.V.B Go.RowKit Go.Proofs.Ytdpbogooceiaaaa.B Go.Proofs.Ytdpbogooceiaaaa.V.B.Ar Go.Proofs.Ytdpbogooceiaaaa.V.B.Tw
set_option linter.unusedVariables false
set_option linter.unusedSimpArgs false
/-- How many bits a number has. -/
def blen (n : Nat) : Nat := if n = 0 then 0 else Nat.log2 n + 1
theorem blen_le (n k : Nat) : blen n ≤ k ↔ n < 2 ^ k := by
  unfold blen
  by_cases h : n = 0
  · rw [if_pos h, h]
    exact ⟨fun _ => Nat.two_pow_pos k, fun _ => Nat.zero_le _⟩
  · rw [if_neg h, ← Nat.log2_lt h]
    exact ⟨fun h => h, fun h => h⟩
theorem blen_shift (n s : Nat) (h : 2 ^ s ≤ n) : blen n = blen (n / 2 ^ s) + s := by
  have key : ∀ k, blen n ≤ k + s ↔ blen (n / 2 ^ s) ≤ k := by
    intro k
    rw [blen_le, blen_le, Nat.div_lt_iff_lt_mul (Nat.two_pow_pos s), ← Nat.pow_add]
  have hs : s ≤ blen n := by
    apply Classical.byContradiction
    intro g
    have := (blen_le n s).1 (by omega)
    omega
  have h1 := (key (blen (n / 2 ^ s))).2 (Nat.le_refl _)
  have h2 := (key (blen n - s)).1 (by omega)
  omega
theorem len8_eq : ∀ b : Nat, b < 256 → bt by256_793 (b : Int) = ((blen b : Nat) : Int) := by decide +kernel
theorem u8_id {x : Int} (h0 : 0 ≤ x) (h1 : x < 256) : IntKind.u8.wrap x = x := by
  simp [IntKind.wrap, IntKind.bits, IntKind.signed]; omega
theorem len_j10 (n : Nat) (hn : n < 256) (x : Nat) (hx : x ≤ 1000) : Ev (fun k => math_bits_Len64.j10 k (n : Int) (x : Int)) ((x + blen n : Nat) : Int) := by
  have hb : blen n ≤ 8 := (blen_le n 8).2 hn
  refine Ev.step (fun k => by rw [math_bits_Len64.j10]) ?_
  rw [u8_id (by omega) (by omega), len8_eq n hn, w64_id (x := ((blen n : Nat) : Int)) (by omega) (by omega), w64_add (by omega) (by omega)]
  exact Ev.pos (by omega) (Ev.pos (by rw [show (ByteArray.size by256_793 : Int) = 256 from by decide +kernel]; omega) (Ev.ret _))
theorem len_j7 (n : Nat) (hn : n < 65536) (x : Nat) (hx : x ≤ 900) : Ev (fun k => math_bits_Len64.j7 k (n : Int) (x : Int)) ((x + blen n : Nat) : Int) := by
  refine Ev.step (fun k => by rw [math_bits_Len64.j7]) ?_
  by_cases c : (n : Int) ≥ 256
  · refine Ev.pos c ?_
    have e8 : wrap64 ((x : Int) + 8) = ((x + 8 : Nat) : Int) := by rw [w64_id (by omega) (by omega)]; omega
    have hb := blen_shift n 8 (by omega)
    rw [show (8 : Int) = ((8 : Nat) : Int) from rfl, shr_u64 n 8 (by decide)] at *
    rw [e8]
    have := len_j10 (n / 2 ^ 8) (by omega) (x + 8) (by omega)
    rwa [show x + 8 + blen (n / 2 ^ 8) = x + blen n by omega] at this
  · exact Ev.neg c (len_j10 n (by omega) x (by omega))
theorem Len64_ev (n : Nat) (hn : n < 2 ^ 64) : Ev (fun k => math_bits_Len64.f k (n : Int)) ((blen n : Nat) : Int) := by
  unfold math_bits_Len64.f
  have s32 : shr .u64 (n : Int) 32 = ((n / 2 ^ 32 : Nat) : Int) := shr_u64 n 32 (by decide)
  have s16 : ∀ m : Nat, shr .u64 (m : Int) 16 = ((m / 2 ^ 16 : Nat) : Int) := fun m => shr_u64 m 16 (by decide)
  have e0 : wrap64 ((32 : Int) + 16) = ((48 : Nat) : Int) := by decide +kernel
  have e1 : wrap64 ((0 : Int) + 16) = ((16 : Nat) : Int) := by decide +kernel
  by_cases c : (n : Int) ≥ 4294967296
  · refine Ev.pos c ?_
    have hb := blen_shift n 32 (by omega)
    rw [s32, s16, e0]
    generalize hq : n / 2 ^ 32 = q at hb
    by_cases d : (q : Int) ≥ 65536
    · have hb2 := blen_shift q 16 (by omega)
      have := len_j7 (q / 2 ^ 16) (by omega) 48 (by decide)
      rw [show 48 + blen (q / 2 ^ 16) = blen n by omega] at this
      exact Ev.pos d this
    · have := len_j7 q (by omega) 32 (by decide)
      rw [show 32 + blen q = blen n by omega] at this
      exact Ev.neg d this
  · refine Ev.neg c ?_
    rw [s16, e1]
    by_cases d : (n : Int) ≥ 65536
    · have hb2 := blen_shift n 16 (by omega)
      have := len_j7 (n / 2 ^ 16) (by omega) 16 (by decide)
      rw [show 16 + blen (n / 2 ^ 16) = blen n by omega] at this
      exact Ev.pos d this
    · have := len_j7 n (by omega) 0 (by decide)
      rw [Nat.zero_add] at this
      exact Ev.neg d this
/-- The leading bit. -/
theorem lead_ev (x : E) : Ev (fun k => span_lead.f k (toS x)) (((blen (val x) : Nat) : Int) - 1) := by
  have h1 := hi_bd x
  have h2 := lo_bd x
  have hv := val_hl x
  unfold span_lead.f
  rw [toS_f0, toS_f1]
  obtain ⟨h, hh⟩ := Int.eq_ofNat_of_zero_le h1.1
  obtain ⟨l, hl⟩ := Int.eq_ofNat_of_zero_le h2.1
  rw [hh] at h1 hv ⊢
  rw [hl] at h2 hv ⊢
  rw [Int.toNat_natCast, Int.toNat_natCast] at hv
  by_cases c : (h : Int) = 0
  · refine Ev.pos c (Ev.bnd (Len64_ev l (by omega)) (Ev.ret' ?_))
    have : val x = l := by omega
    rw [this]
    have hb : blen l ≤ 64 := (blen_le l 64).2 (by omega)
    exact w64_id (by omega) (by omega)
  · refine Ev.neg c (Ev.bnd (Len64_ev h (by omega)) (Ev.ret' ?_))
    have hb : blen h ≤ 64 := (blen_le h 64).2 (by omega)
    have hs := blen_shift (val x) 64 (by omega)
    have hd : val x / 2 ^ 64 = h := by omega
    rw [hd] at hs
    rw [hs, w64_id (by omega) (by omega)]
    omega
/-- Do all elements have bits below n alone? -/
def InN (n : Nat) (X : List E) : Prop := ∀ x ∈ X, val x < 2 ^ n
instance (n : Nat) (X : List E) : Decidable (InN n X) := by unfold InN; infer_instance
theorem within_ev (n : Nat) (X : List E) (hX : X.length ≤ 4611686018427387904) : Ev (fun k => span_within.f k (X.map toS) (n : Int)) (decide (InN n X)) := by
  have hp : ∀ x, Ev (fun k => span_within_1.f k (toS x) (some (n : Int))) (decide (¬ val x < 2 ^ n)) := fun x => Ev.bnd (lead_ev x) (Ev.ret' (by
    have := blen_le (val x) n
    rw [decide_eq_decide]
    omega))
  obtain ⟨r, h1, h2⟩ := index_gen (P := fun x => val x < 2 ^ n) (l := fun k xs a n i => slices_IndexFunc159_c165.l2 k xs a n i) (p := span_within_1.f) (fun k xs n i => by rw [slices_IndexFunc159_c165.l2]) hp X hX X.length 0 (by omega)
  unfold span_within.f slices_ContainsFunc126_c165.f slices_IndexFunc159_c165.f
  rw [List.length_map]
  refine Ev.bnd (Ev.bnd h1 (Ev.ret _)) (Ev.ret' ?_)
  have h2 : r ≥ 0 ↔ ¬ InN n X := h2
  by_cases c : InN n X
  · rw [decide_eq_true c, decide_eq_false (fun g => (h2.1 g) c)]; rfl
  · rw [decide_eq_false c, decide_eq_true (h2.2 c)]; rfl
theorem towerBit_ev (n : Nat) (hn : n < 128) : Ev (fun k => tower_Bit.f k (n : Int)) (toS (bitE n)) := by
  obtain ⟨h1, h2⟩ := bitE_hl hn
  unfold tower_Bit.f
  refine Ev.pos (Int.natCast_nonneg _) ?_
  by_cases c : n < 64
  · refine Ev.pos (by omega) (Ev.pos (Int.natCast_nonneg _) (Ev.ret' ?_))
    unfold toS
    rw [h1, h2, if_pos c, if_pos c, shl_u64 n (by omega)]
  · refine Ev.neg (by omega) (Ev.step (fun k => by rw [tower_Bit.j3]) (Ev.pos (by omega) (Ev.pos (by omega) ?_)))
    have e : wrap64 ((n : Int) - 64) = ((n - 64 : Nat) : Int) := by rw [w64_id (by omega) (by omega)]; omega
    rw [e]
    refine Ev.pos (Int.natCast_nonneg _) (Ev.ret' ?_)
    unfold toS
    rw [h1, h2, if_neg c, if_neg c, shl_u64 (n - 64) (by omega)]
theorem spanHas_ev (x : E) (n : Nat) (hn : n < 128) : Ev (fun k => span_has.f k (toS x) (n : Int)) (hasB x n) := by
  unfold span_has.f
  refine Ev.bnd (towerBit_ev n hn) (Ev.ret' ?_)
  rw [toS_f0, toS_f1, toS_f0, toS_f1]
  exact hasBits x n hn
/-- Bits turned about, as far as one has come. -/
def turnN (X : List E) (m j : Nat) : E := sumN (fun i => pick (hasB (X.getD i 0) j) (bitE i)) m
def turnL (X : List E) (n : Nat) : List E := tabL n (turnN X X.length)
theorem turn_l1 (n : Nat) (hn : n ≤ 128) (f : Nat → E) (z : E) (i : Nat) (hi128 : i < 128) (XS : List S38) (m : Int) {R : List S38 × Int}
    (h : Ev (fun k => span_Turn.l7 k (n : Int) XS m (wrap64 ((i : Int) + 1)) ((tabL n (fun q => f q + pick (hasB z q) (bitE i))).map toS)) R) :
    Ev (fun k => span_Turn.l10 k (n : Int) (i : Int) XS m (i : Int) (n : Int) 0 ((tabL n f).map toS) (hi z) (lo z)) R := by
  have e0 : tabL n f = tabL n (bitAdd f z (bitE i) 0) := tabL_congr _ (fun q _ => (bitAdd_zero _ _ _ q).symm)
  rw [e0]
  refine Ev.down (g := fun j k => span_Turn.l10 k (n : Int) (i : Int) XS m (i : Int) (n : Int) (j : Int) ((tabL n (bitAdd f z (bitE i) j)).map toS) (hi z) (lo z)) (n := n) ?_ fun j hj' hih => ?_
  · refine Ev.step (fun k => by rw [span_Turn.l10]) (Ev.neg (Int.lt_irrefl _) ?_)
    rw [tabL_congr _ (fun q hq => bitAdd_end f z (bitE i) n q hq)]
    exact h
  · have hg : (tabL n (bitAdd f z (bitE i) j)).getD j 0 = f j := by rw [tabL_getD _ _ j hj', bitAdd_at]
    have c3 : j < ((tabL n (bitAdd f z (bitE i) j)).map toS).length := by rw [List.length_map, tabL_length]; exact hj'
    refine Ev.step (fun k => by rw [span_Turn.l10]) (Ev.pos (by omega) ?_)
    rw [toS_mk]
    refine Ev.bnd (spanHas_ev z j (by omega)) ?_
    rw [w64_succ hj' (by omega)]
    cases c : hasB z j with
    | true =>
      refine Ev.pos rfl (Ev.ixS c3 (Ev.bnd (towerBit_ev i hi128) ?_))
      rw [rdS, hg]
      refine Ev.bnd (Add_ev _ _) (Ev.ixS c3 ?_)
      have e : ((tabL n (bitAdd f z (bitE i) j)).map toS).set (j : Int).toNat (toS (f j + bitE i)) = (tabL n (bitAdd f z (bitE i) (j + 1))).map toS := by
        rw [Int.toNat_natCast, map_set]
        have hn2 := bitAdd_now f z (bitE i) j
        rw [c, pick_true] at hn2
        rw [← hn2, tabL_set _ _ _ j hj' (fun q _ hne => bitAdd_next f z (bitE i) j q hne)]
      rw [e]
      exact hih
    | false =>
      refine Ev.neg Bool.false_ne_true ?_
      have e : tabL n (bitAdd f z (bitE i) (j + 1)) = tabL n (bitAdd f z (bitE i) j) := by
        apply tabL_congr
        intro q _
        by_cases cq : q = j
        · subst cq; rw [bitAdd_now, c, pick_false, add_zero, bitAdd_at]
        · exact bitAdd_next f z (bitE i) j q cq
      rw [e] at hih; exact hih
theorem Turn_ev (X : List E) (hX : X.length ≤ 128) (n : Nat) (hn : n ≤ 128) (hin : InN n X) : Ev (fun k => span_Turn.f k (X.map toS) (n : Int)) ((turnL X n).map toS, 0) := by
  unfold span_Turn.f
  rw [List.length_map]
  refine Ev.neg (by omega) (Ev.neg (by omega) (Ev.neg (by omega) (Ev.bnd (within_ev n X (by omega)) ?_)))
  rw [decide_eq_true hin]
  refine Ev.neg (by decide) (Ev.pos (Int.natCast_nonneg _) (Ev.pos (by omega) ?_))
  rw [Int.toNat_natCast, rep_zero, tabL_replicate]
  have e0 : tabL n (fun _ => (0 : E)) = tabL n (turnN X 0) := rfl
  rw [e0]
  refine Ev.down (g := fun i k => span_Turn.l7 k (n : Int) (X.map toS) (X.length : Int) (i : Int) ((tabL n (turnN X i)).map toS)) (n := X.length) ?_ fun i hi' hih => ?_
  · refine Ev.step (fun k => by rw [span_Turn.l7]) ?_
    exact Ev.neg (Int.lt_irrefl _) (Ev.ret _)
  · refine Ev.step (fun k => by rw [span_Turn.l7]) (Ev.pos (by omega) (Ev.ixS (by rw [List.length_map]; exact hi') ?_))
    rw [rdS, toS_f0, toS_f1]
    refine turn_l1 n hn (turnN X i) (X.getD i 0) i (by omega) _ _ ?_
    rw [w64_succ hi' (by omega)]
    have e1 : tabL n (fun q => turnN X i q + pick (hasB (X.getD i 0) q) (bitE i)) = tabL n (turnN X (i + 1)) := tabL_congr _ (fun q _ => by
      show _ = sumN _ (i + 1)
      rw [sumN]; rfl)
    rw [e1]
    exact hih
end Go.Proofs.Ytdpbogooceiaaaa.Sp
namespace Go.Proofs.Ytdpbogooceiaaaa.Sp
open Go.Proofs.Ytdpbogooceiaaaa.V.B Go.RowKit Go.Proofs.Ytdpbogooceiaaaa.B Go.Proofs.Ytdpbogooceiaaaa.V.B.Ar Go.Proofs.Ytdpbogooceiaaaa.V.B.Tw
set_option linter.unusedVariables false
set_option linter.unusedSimpArgs false
theorem not_ge {r : Int} {p : Prop} [Decidable p] (h : r ≥ 0 ↔ ¬ p) : (!decide (r ≥ 0)) = decide p := by
  by_cases c : p
  · rw [decide_eq_true c, decide_eq_false (fun g => (h.1 g) c)]; rfl
  · rw [decide_eq_false c, decide_eq_true (h.2 c)]; rfl
theorem cube_of_ev (L : Int) (X : List E) (hX : X.length ≤ 4611686018427387904) : Ev (fun k => cube_of.f k L (X.map toS)) (decide (AllS L X)) := by
  have hp : ∀ x, Ev (fun k => cube_of_1.f k (toS x) (some L)) (decide (¬ OfS L x)) := fun x => Ev.bnd (of_ev L x) (Ev.ret' (by rw [decide_not]))
  obtain ⟨r, h1, h2⟩ := index_gen (P := OfS L) (l := fun k xs a n i => slices_IndexFunc159_c160.l2 k xs a n i) (p := cube_of_1.f) (fun k xs n i => by rw [slices_IndexFunc159_c160.l2]) hp X hX X.length 0 (by omega)
  unfold cube_of.f slices_ContainsFunc126_c160.f slices_IndexFunc159_c160.f
  rw [List.length_map]
  exact Ev.bnd (Ev.bnd h1 (Ev.ret _)) (Ev.ret' (not_ge h2))
theorem ring_of_ev (L : Int) (X : List E) (hX : X.length ≤ 4611686018427387904) : Ev (fun k => ring_of.f k L (X.map toS)) (decide (AllS L X)) := by
  have hp : ∀ x, Ev (fun k => ring_of_1.f k (toS x) (some L)) (decide (¬ OfS L x)) := fun x => Ev.bnd (of_ev L x) (Ev.ret' (by rw [decide_not]))
  obtain ⟨r, h1, h2⟩ := index_gen (P := OfS L) (l := fun k xs a n i => slices_IndexFunc159_c149.l2 k xs a n i) (p := ring_of_1.f) (fun k xs n i => by rw [slices_IndexFunc159_c149.l2]) hp X hX X.length 0 (by omega)
  unfold ring_of.f slices_ContainsFunc126_c149.f slices_IndexFunc159_c149.f
  rw [List.length_map]
  exact Ev.bnd (Ev.bnd h1 (Ev.ret _)) (Ev.ret' (not_ge h2))
theorem claim_of_ev (L : Int) (X : List E) (hX : X.length ≤ 4611686018427387904) : Ev (fun k => claim_of.f k L (X.map toS)) (decide (AllS L X)) := by
  have hp : ∀ x, Ev (fun k => claim_of_1.f k (toS x) (some L)) (decide (¬ OfS L x)) := fun x => Ev.bnd (of_ev L x) (Ev.ret' (by rw [decide_not]))
  obtain ⟨r, h1, h2⟩ := index_gen (P := OfS L) (l := fun k xs a n i => slices_IndexFunc159_c143.l2 k xs a n i) (p := claim_of_1.f) (fun k xs n i => by rw [slices_IndexFunc159_c143.l2]) hp X hX X.length 0 (by omega)
  unfold claim_of.f slices_ContainsFunc126_c143.f slices_IndexFunc159_c143.f
  rw [List.length_map]
  exact Ev.bnd (Ev.bnd h1 (Ev.ret _)) (Ev.ret' (not_ge h2))
theorem weave_of_ev (L : Int) (X : List E) (hX : X.length ≤ 4611686018427387904) : Ev (fun k => weave_of.f k L (X.map toS)) (decide (AllS L X)) := by
  have hp : ∀ x, Ev (fun k => weave_of_1.f k (toS x) (some L)) (decide (¬ OfS L x)) := fun x => Ev.bnd (of_ev L x) (Ev.ret' (by rw [decide_not]))
  obtain ⟨r, h1, h2⟩ := index_gen (P := OfS L) (l := fun k xs a n i => slices_IndexFunc159_c170.l2 k xs a n i) (p := weave_of_1.f) (fun k xs n i => by rw [slices_IndexFunc159_c170.l2]) hp X hX X.length 0 (by omega)
  unfold weave_of.f slices_ContainsFunc126_c170.f slices_IndexFunc159_c170.f
  rw [List.length_map]
  exact Ev.bnd (Ev.bnd h1 (Ev.ret _)) (Ev.ret' (not_ge h2))
end Go.Proofs.Ytdpbogooceiaaaa.Sp
namespace Go.Proofs.Ytdpbogooceiaaaa.Sp
open Go.Proofs.Ytdpbogooceiaaaa.V.B Go.RowKit Go.Proofs.Ytdpbogooceiaaaa.B Go.Proofs.Ytdpbogooceiaaaa.V.B.Ar Go.Proofs.Ytdpbogooceiaaaa.V.B.Tw
set_option linter.unusedVariables false
def weightsL (P : List E) : List E := tabL (2 ^ P.length) (weight P)
theorem tabL_append (m n : Nat) (f g : Nat → E) : tabL m f ++ tabL n g = tabL (m + n) (fun i => if i < m then f i else g (i - m)) := by
  apply ext_getD
  · rw [List.length_append, tabL_length, tabL_length, tabL_length]
  · intro i hi
    rw [List.length_append, tabL_length, tabL_length] at hi
    rw [tabL_getD (m + n) _ i hi, List.getD_eq_getElem?_getD]
    by_cases c : i < m
    · rw [if_pos c, List.getElem?_append_left (by rw [tabL_length]; exact c), ← List.getD_eq_getElem?_getD, tabL_getD m f i c]
    · rw [if_neg c, List.getElem?_append_right (by rw [tabL_length]; omega), tabL_length, ← List.getD_eq_getElem?_getD, tabL_getD n g (i - m) (by omega)]
theorem weightsL_snoc (P : List E) (p : E) : tabL (2 ^ P.length) (fun i => weight P i + weight P i * p) ++ tabL (2 ^ P.length) (fun i => weight P i * p) = weightsL (P ++ [p]) := by
  unfold weightsL
  rw [tabL_append, List.length_append, List.length_singleton, Nat.pow_succ, Nat.mul_two]
  apply tabL_congr
  intro i hi
  by_cases c : i < 2 ^ P.length
  · rw [if_pos c, weight_low p P i c, mul_add, mul_one]
  · rw [if_neg c]
    have := weight_up p P (i - 2 ^ P.length) (by omega)
    rw [show 2 ^ P.length + (i - 2 ^ P.length) = i by omega] at this
    exact this.symm
theorem pickd_at (i : Nat) (y : E) : pick (decide (i < i)) y = 0 := by rw [decide_eq_false (Nat.lt_irrefl i), pick_false]
theorem pickd_now (i : Nat) (y : E) : pick (decide (i < i + 1)) y = y := by rw [decide_eq_true (Nat.lt_succ_self i), pick_true]
theorem pickd_next (i k : Nat) (y : E) (h : k ≠ i) : pick (decide (k < i + 1)) y = pick (decide (k < i)) y := by
  have : decide (k < i + 1) = decide (k < i) := by rw [decide_eq_decide]; omega
  rw [this]
theorem pickd_in (n k : Nat) (y : E) (h : k < n) : pick (decide (k < n)) y = y := by rw [decide_eq_true h, pick_true]
theorem pickd_zero (k : Nat) (y : E) : pick (decide (k < 0)) y = 0 := by rw [decide_eq_false (Nat.not_lt_zero k), pick_false]
theorem weights_l1 {l : Nat} (hl : l ≤ 7) (n : Nat) (hn : n ≤ 1000000) (w : Nat → E) (hw : ∀ i, i < n → InL l (w i)) (x : E) (hx : InL l x) (PS : List S38) (m j : Int) {R : List S38}
    (h : Ev (fun q => cube_Weights.l5 q (l : Int) PS m (wrap64 (j + 1)) ((tabL n (fun i => w i + w i * x) ++ tabL n (fun i => w i * x)).map toS)) R) :
    ∀ (d i : Nat), i + d = n → Ev (fun q => cube_Weights.l9 q (l : Int) PS m j (n : Int) (i : Int) ((tabL n (fun k => w k + pick (decide (k < i)) (w k * x))).map toS) (hi x) (lo x) ((tabL n (fun k => pick (decide (k < i)) (w k * x))).map toS)) R := by
  intro d
  induction d with
  | zero =>
    intro i hid
    have : i = n := by omega
    subst this
    refine Ev.step (fun q => by rw [cube_Weights.l9]) (Ev.neg (Int.lt_irrefl _) ?_)
    have e1 : tabL i (fun k => w k + pick (decide (k < i)) (w k * x)) = tabL i (fun k => w k + w k * x) := tabL_congr _ (fun k hk => by rw [pickd_in i k _ hk])
    have e2 : tabL i (fun k => pick (decide (k < i)) (w k * x)) = tabL i (fun k => w k * x) := tabL_congr _ (fun k hk => pickd_in i k _ hk)
    rw [e1, e2]
    refine Ev.pos (by rw [List.length_map, List.length_map, tabL_length, tabL_length]; omega) ?_
    rw [← List.map_append]
    exact h
  | succ d ih =>
    intro i hid
    have hi' : i < n := by omega
    have hih := ih (i + 1) (by omega)
    have g1 : (tabL n (fun k => w k + pick (decide (k < i)) (w k * x))).getD i 0 = w i := by rw [tabL_getD _ _ i hi', pickd_at, add_zero]
    have c3 : (i : Int) < (((tabL n (fun k => w k + pick (decide (k < i)) (w k * x))).map toS).length : Int) := by rw [List.length_map, tabL_length]; omega
    have c4 : (i : Int) < (((tabL n (fun k => pick (decide (k < i)) (w k * x))).map toS).length : Int) := by rw [List.length_map, tabL_length]; omega
    have eu : ((tabL n (fun k => pick (decide (k < i)) (w k * x))).map toS).set (i : Int).toNat (toS (w i * x)) = (tabL n (fun k => pick (decide (k < i + 1)) (w k * x))).map toS := by
      rw [Int.toNat_natCast, map_set]
      have hn2 := pickd_now i (w i * x)
      conv => lhs; rw [← hn2]
      rw [tabL_set n _ (fun k => pick (decide (k < i + 1)) (w k * x)) i hi' (fun k _ hne => pickd_next i k _ hne)]
    have eo : ((tabL n (fun k => w k + pick (decide (k < i)) (w k * x))).map toS).set (i : Int).toNat (toS (w i + w i * x)) = (tabL n (fun k => w k + pick (decide (k < i + 1)) (w k * x))).map toS := by
      rw [Int.toNat_natCast, map_set]
      have hn2 := pickd_now i (w i * x)
      conv => lhs; rw [← hn2]
      rw [tabL_set n _ (fun k => w k + pick (decide (k < i + 1)) (w k * x)) i hi' (fun k _ hne => by show w k + _ = w k + _; rw [pickd_next i k _ hne])]
    have g2 : (tabL n (fun k => pick (decide (k < i + 1)) (w k * x))).getD i 0 = w i * x := by rw [tabL_getD _ _ i hi', pickd_now]
    refine Ev.step (fun q => by rw [cube_Weights.l9]) (Ev.pos (by omega) (Ev.pos (Int.natCast_nonneg _) (Ev.pos c3 ?_)))
    simp only [rdS, g1, toS_f0, toS_f1]
    refine Ev.bnd (Mul_ev hl (hw i hi') hx) (Ev.pos (Int.natCast_nonneg _) (Ev.pos c4 (Ev.pos (Int.natCast_nonneg _) (Ev.pos (by rw [List.length_set]; exact c4) ?_))))
    simp only [eu, rdS, g2]
    refine Ev.bnd (Add_ev _ _) (Ev.pos (Int.natCast_nonneg _) (Ev.pos c3 ?_))
    simp only [eo, w64_succ hi' (show n ≤ 4611686018427387904 by omega)]
    exact hih
theorem inL_all {l : Nat} {P : List E} (h : AllS (l : Int) P) : ∀ p ∈ P, InL l p := fun p hp => inL_of (h p hp)
theorem weights_l0 {l : Nat} (hl : l ≤ 7) (P : List E) (hP : AllS (l : Int) P) (hPl : P.length ≤ 16) : ∀ (d j : Nat), j + d = P.length →
    Ev (fun q => cube_Weights.l5 q (l : Int) (P.map toS) (P.length : Int) (j : Int) ((weightsL (P.take j)).map toS)) ((weightsL P).map toS) := by
  intro d
  induction d with
  | zero =>
    intro j hj
    have : j = P.length := by omega
    subst this
    rw [List.take_length]
    exact Ev.step (fun q => by rw [cube_Weights.l5]) (Ev.neg (Int.lt_irrefl _) (Ev.ret _))
  | succ d ih =>
    intro j hj
    have hj' : j < P.length := by omega
    have hih := ih (j + 1) (by omega)
    have htl : (P.take j).length = j := by rw [List.length_take]; omega
    have hp16 : 2 ^ j ≤ 2 ^ 16 := Nat.pow_le_pow_right (by decide) (by omega)
    have hwl : (weightsL (P.take j)).length = 2 ^ j := by unfold weightsL; rw [tabL_length, htl]
    have hg : P.getD j 0 = P[j] := by rw [List.getD_eq_getElem?_getD, List.getElem?_eq_getElem hj']; rfl
    rw [List.take_succ_eq_append_getElem hj', ← hg, ← weightsL_snoc, htl] at hih
    refine Ev.step (fun q => by rw [cube_Weights.l5]) (Ev.pos (by omega) (Ev.pos (Int.natCast_nonneg _) (Ev.pos (by rw [List.length_map]; omega) ?_)))
    rw [List.length_map, hwl]
    refine Ev.pos (Int.natCast_nonneg _) (Ev.pos (by omega) ?_)
    simp only [rdS, toS_f0, toS_f1]
    have e0 : weightsL (P.take j) = tabL (2 ^ j) (fun k => weight (P.take j) k + pick (decide (k < 0)) (weight (P.take j) k * P.getD j 0)) := by
      unfold weightsL; rw [htl]
      exact tabL_congr _ (fun k _ => by rw [pickd_zero, add_zero])
    have e1 : List.replicate ((2 ^ j : Nat) : Int).toNat z38 = (tabL (2 ^ j) (fun k => pick (decide (k < 0)) (weight (P.take j) k * P.getD j 0))).map toS := by
      rw [Int.toNat_natCast, rep_zero, tabL_replicate]
      exact congrArg (List.map toS) (tabL_congr _ (fun k _ => (pickd_zero _ _).symm))
    rw [e0, e1]
    refine weights_l1 hl (2 ^ j) (by omega) (weight (P.take j)) (fun i _ => weight_in hl _ i (fun p hp => inL_all hP p (List.mem_of_mem_take hp))) (P.getD j 0) (allS_getD hP j) _ _ _ ?_ (2 ^ j) 0 (Nat.zero_add _)
    rw [w64_succ hj' (show P.length ≤ 4611686018427387904 by omega)]
    exact hih
/-- The weights, or nothing. -/
def weightsO (L : Int) (P : List E) : List E := if LvS L ∧ P.length ≤ 16 ∧ AllS L P then weightsL P else []
theorem Weights_ev (L : Int) (P : List E) : Ev (fun q => cube_Weights.f q L (P.map toS)) ((weightsO L P).map toS) := by
  have hT : ¬ (LvS L ∧ P.length ≤ 16 ∧ AllS L P) → weightsO L P = [] := fun h => if_neg h
  unfold cube_Weights.f
  rw [List.length_map]
  by_cases hL : LvS L
  rotate_left
  · exact Ev.bnd (wide_out hL) (Ev.pos rfl (Ev.ret' (by rw [hT fun h => hL h.1]; rfl)))
  obtain ⟨v, hv, hw⟩ := wide_in hL
  refine Ev.bnd hw (Ev.neg hv ?_)
  by_cases hl : (P.length : Int) > 16
  · exact Ev.pos hl (Ev.ret' (by rw [hT fun h => by have := h.2.1; omega]; rfl))
  refine Ev.neg hl (Ev.bnd (cube_of_ev L P (by omega)) ?_)
  by_cases hA : AllS L P
  rotate_left
  · rw [decide_eq_false hA]; exact Ev.pos rfl (Ev.ret' (by rw [hT fun h => hA h.2.2]; rfl))
  rw [decide_eq_true hA]
  have e : weightsO L P = weightsL P := if_pos ⟨hL, by omega, hA⟩
  rw [e]
  obtain ⟨l, rfl⟩ := Int.eq_ofNat_of_zero_le hL.1
  refine Ev.neg (by decide) (Ev.bnd One_ev ?_)
  have := weights_l0 (by have := hL.2; omega) P hA (by omega) P.length 0 (Nat.zero_add _)
  have e0 : (weightsL (P.take 0)).map toS = [toS 1] := rfl
  rw [e0] at this
  exact this
end Go.Proofs.Ytdpbogooceiaaaa.Sp
namespace Go.Proofs.Ytdpbogooceiaaaa.Sp
open Go.Proofs.Ytdpbogooceiaaaa.V.B Go.RowKit Go.Proofs.Ytdpbogooceiaaaa.B Go.Proofs.Ytdpbogooceiaaaa.V.B.Ar Go.Proofs.Ytdpbogooceiaaaa.V.B.Tw
set_option linter.unusedVariables false
set_option linter.unusedSimpArgs false
def bitsL (x : E) (n : Nat) : List Bool := (List.range n).map fun i => (val x).testBit i
theorem towerBits_ev {l : Nat} (hl : l ≤ 7) (x : E) (hx : OfS (l : Int) x) : Ev (fun k => tower_Bits.f k (l : Int) (toS x)) (bitsL x (2 ^ l)) := by
  have h128 := w128 hl
  unfold tower_Bits.f
  refine Ev.bnd (of_ev (l : Int) x) (Ev.nd (fun c => absurd hx c) fun _ => Ev.pos (Int.natCast_nonneg _) ?_)
  rw [shl_i64 l (by omega)]
  refine Ev.down (g := fun i k => tower_Bits.l5 k ((2 ^ l : Nat) : Int) (i : Int) (hi x) (lo x) (bitsL x i)) (n := 2 ^ l) ?_ fun i hi' hih => ?_
  · refine Ev.step (fun k => by rw [tower_Bits.l5]) ?_
    exact Ev.neg (Int.lt_irrefl _) (Ev.ret' rfl)
  · have f0 : (i : Int) < ((2 ^ l : Nat) : Int) := by omega
    have f1 : (bitsL x i).length + 1 ≤ 140737488355328 / 1 := by unfold bitsL; rw [List.length_map, List.length_range]; omega
    have hs : bitsL x (i + 1) = bitsL x i ++ [(val x).testBit i] := by unfold bitsL; rw [List.range_succ, List.map_append]; rfl
    rw [hs, ← hasBits x i (by omega)] at hih
    have hb : (!decide (Go.bits .or .u64 (Go.bits .and .u64 (lo x) (lo (bitE i))) (Go.bits .and .u64 (hi x) (hi (bitE i))) = 0)) = ((Go.bits .or .u64 (Go.bits .and .u64 (lo x) (lo (bitE i))) (Go.bits .and .u64 (hi x) (hi (bitE i)))) != 0) := by
      rw [Bool.eq_iff_iff]; simp
    rw [← hb] at hih
    refine Ev.step (fun k => by rw [tower_Bits.l5]) (Ev.pos f0 (Ev.bnd (towerBit_ev i (by omega)) (Ev.pos f1 ?_)))
    rw [w64_succ hi' (by omega)]
    exact hih
theorem byLeft_l1 {l : Nat} (hl : l ≤ 7) (f : Nat → E) (z y a p : E) (TS : List S38) (m u : Int) {R : List S38}
    (h : Ev (fun q => packv_byLeft.l2 q (l : Int) TS m (wrap64 (u + 1)) ((tabL (2 ^ l) (fun k => f k + pick (hasB z k) y)).map toS) (hi a) (lo a) (hi p) (lo p)) R) :
    ∀ (d i : Nat), i + d = 2 ^ l → Ev (fun q => packv_byLeft.l7 q (l : Int) TS m u ((2 ^ l : Nat) : Int) (i : Int) ((tabL (2 ^ l) (bitAdd f z y i)).map toS) (hi a) (lo a) (hi p) (lo p) (hi y) (lo y) (bitsL z (2 ^ l))) R := by
  have h128 := w128 hl
  have hlb : (bitsL z (2 ^ l)).length = 2 ^ l := by unfold bitsL; simp
  intro d
  induction d with
  | zero =>
    intro i hid
    have : i = 2 ^ l := by omega
    subst this
    refine Ev.step (fun q => by rw [packv_byLeft.l7]) (Ev.neg (Int.lt_irrefl _) ?_)
    rw [tabL_congr _ (fun k hk => bitAdd_end f z y (2 ^ l) k hk)]
    exact h
  | succ d ih =>
    intro i hid
    have hi' : i < 2 ^ l := by omega
    have hih := ih (i + 1) (by omega)
    have hb : rdB (bitsL z (2 ^ l)) (i : Int) = hasB z i := by
      show (bitsL z (2 ^ l)).getD (i : Int).toNat false = _
      rw [Int.toNat_natCast]; exact getD_rangeM _ false _ i hi'
    have hg : (tabL (2 ^ l) (bitAdd f z y i)).getD i 0 = f i := by rw [tabL_getD _ _ i hi', bitAdd_at]
    have c3 : i < ((tabL (2 ^ l) (bitAdd f z y i)).map toS).length := by rw [List.length_map, tabL_length]; exact hi'
    refine Ev.step (fun q => by rw [packv_byLeft.l7]) (Ev.pos (by omega) (Ev.ixS (by rw [hlb]; exact hi') ?_))
    rw [hb, w64_succ hi' (show 2 ^ l ≤ 4611686018427387904 by omega)]
    cases c : hasB z i with
    | true =>
      refine Ev.pos rfl (Ev.ixS c3 ?_)
      rw [rdS, hg]
      refine Ev.bnd (Add_ev _ _) (Ev.ixS c3 ?_)
      have e : ((tabL (2 ^ l) (bitAdd f z y i)).map toS).set (i : Int).toNat (toS (f i + y)) = (tabL (2 ^ l) (bitAdd f z y (i + 1))).map toS := by
        rw [Int.toNat_natCast, map_set]
        have hn := bitAdd_now f z y i
        rw [c, pick_true] at hn
        rw [← hn, tabL_set _ _ _ i hi' (fun k _ hne => bitAdd_next f z y i k hne)]
      rw [e]; exact hih
    | false =>
      refine Ev.neg Bool.false_ne_true ?_
      have e : tabL (2 ^ l) (bitAdd f z y (i + 1)) = tabL (2 ^ l) (bitAdd f z y i) := by
        apply tabL_congr
        intro k _
        by_cases ck : k = i
        · subst ck; rw [bitAdd_now, c, pick_false, add_zero, bitAdd_at]
        · exact bitAdd_next f z y i k ck
      rw [← e]; exact hih
theorem byLeft_l0 {l : Nat} (hl : l ≤ 7) (T : List E) (a p : E) (hT : AllS (l : Int) T) (hTl : T.length ≤ 2 ^ l) (ha : InL l a) (hp : InL l p) (f : Nat → E) :
    ∀ (d u : Nat), u + d = T.length → Ev (fun q => packv_byLeft.l2 q (l : Int) (T.map toS) (T.length : Int) (u : Int) ((tabL (2 ^ l) (fun k => f k + actT u (fun i => T.getD i 0) a p k)).map toS) (hi a) (lo a) (hi p) (lo p))
      ((tabL (2 ^ l) (fun k => f k + actT T.length (fun i => T.getD i 0) a p k)).map toS) := by
  have h128 := w128 hl
  intro d
  induction d with
  | zero =>
    intro u hu
    have : u = T.length := by omega
    subst this
    refine Ev.step (fun q => by rw [packv_byLeft.l2]) ?_
    exact Ev.neg (Int.lt_irrefl _) (Ev.ret' rfl)
  | succ d ih =>
    intro u hu
    have hu' : u < T.length := by omega
    have hih := ih (u + 1) (by omega)
    have hw := w64_succ hu' (show T.length ≤ 4611686018427387904 by omega)
    have hs : ∀ k, actT (u + 1) (fun i => T.getD i 0) a p k = actT u (fun i => T.getD i 0) a p k + pick (hasB (bitE u * a) k) (T.getD u 0 * p) := fun k => by
      unfold actT; rw [sumN]
    have hf : (fun k => f k + actT (u + 1) (fun i => T.getD i 0) a p k) = fun k => (f k + actT u (fun i => T.getD i 0) a p k) + pick (hasB (bitE u * a) k) (T.getD u 0 * p) := by
      funext k; rw [hs, add_assoc]
    rw [hf] at hih
    refine Ev.step (fun q => by rw [packv_byLeft.l2]) (Ev.pos (by omega) (Ev.ixS (by rw [List.length_map]; exact hu') ?_))
    rw [rdS]
    refine Ev.bnd (Mul_ev hl (allS_getD hT u) hp) ?_
    by_cases c : T.getD u 0 * p = 0
    · refine Ev.pos ((eq_zero_iff _).1 c) ?_
      rw [hw]
      have e : (fun k => (f k + actT u (fun i => T.getD i 0) a p k) + pick (hasB (bitE u * a) k) (T.getD u 0 * p)) = fun k => f k + actT u (fun i => T.getD i 0) a p k := by
        funext k; rw [c, pick_zero, add_zero]
      rw [e] at hih
      exact hih
    · refine Ev.neg (fun g => c ((eq_zero_iff _).2 g)) ?_
      refine Ev.bnd (towerBit_ev u (by omega)) ?_
      have hbe := bitE_in hl (show u < 2 ^ l by omega)
      refine Ev.bnd (Mul_ev hl hbe ha) ?_
      refine Ev.bnd (towerBits_ev hl (bitE u * a) (ofS_of hl (inL_mul hl hbe ha))) ?_
      have hlb : (bitsL (bitE u * a) (2 ^ l)).length = 2 ^ l := by unfold bitsL; simp
      rw [hlb]
      have e0 : tabL (2 ^ l) (fun k => f k + actT u (fun i => T.getD i 0) a p k) = tabL (2 ^ l) (bitAdd (fun k => f k + actT u (fun i => T.getD i 0) a p k) (bitE u * a) (T.getD u 0 * p) 0) :=
        tabL_congr _ (fun k _ => (bitAdd_zero (fun k => f k + actT u (fun i => T.getD i 0) a p k) (bitE u * a) (T.getD u 0 * p) k).symm)
      rw [e0]
      refine byLeft_l1 hl (fun k => f k + actT u (fun i => T.getD i 0) a p k) (bitE u * a) (T.getD u 0 * p) a p _ _ _ ?_ (2 ^ l) 0 (Nat.zero_add _)
      rw [hw]
      exact hih
theorem byLeft_ev {l : Nat} (hl : l ≤ 7) (f : Nat → E) (T : List E) (a p : E) (hT : AllS (l : Int) T) (hTl : T.length ≤ 2 ^ l) (ha : InL l a) (hp : InL l p) :
    Ev (fun q => packv_byLeft.f q (l : Int) ((tabL (2 ^ l) f).map toS) (T.map toS) (toS a) (toS p)) ((tabL (2 ^ l) (fun k => f k + actT T.length (fun i => T.getD i 0) a p k)).map toS) := by
  unfold packv_byLeft.f
  rw [List.length_map]
  have := byLeft_l0 hl T a p hT hTl ha hp f T.length 0 (Nat.zero_add _)
  have e : tabL (2 ^ l) (fun k => f k + actT 0 (fun i => T.getD i 0) a p k) = tabL (2 ^ l) f := tabL_congr _ (fun k _ => by
    show f k + sumN _ 0 = f k
    rw [sumN, add_zero])
  rw [e] at this
  exact this
end Go.Proofs.Ytdpbogooceiaaaa.Sp
namespace Go.Proofs.Ytdpbogooceiaaaa.Sp
open Go.Proofs.Ytdpbogooceiaaaa.V.B Go.RowKit Go.Proofs.Ytdpbogooceiaaaa.B Go.Proofs.Ytdpbogooceiaaaa.V.B.Ar Go.Proofs.Ytdpbogooceiaaaa.V.B.Tw
set_option linter.unusedVariables false
set_option linter.unusedSimpArgs false
theorem psize_in {l : Nat} (hl : l ≤ 7) : Ev (fun k => packv_size.f k (l : Int)) ((2 ^ l : Nat) : Int) := by
  obtain ⟨v, hv, ev⟩ := wide_in (L := (l : Int)) ⟨by omega, by omega⟩
  unfold packv_size.f
  refine Ev.bnd ev (Ev.neg hv (Ev.pos (Int.natCast_nonneg _) (Ev.ret' ?_)))
  exact shl_i64 l (by omega)
theorem psize_out {L : Int} (h : ¬ LvS L) : Ev (fun k => packv_size.f k L) 0 := by
  unfold packv_size.f
  exact Ev.bnd (wide_out h) (Ev.pos rfl (Ev.ret _))
theorem left_l5 (x : E) (n : Nat) (hn : n ≤ 128) : ∀ (d i : Nat), i + d = n → Ev (fun k => packv_Left.l5 k (n : Int) (i : Int) ((pairX i x 1 ++ List.replicate (n - i) 0).map toS) (bitsL x n)) ((pairX n x 1).map toS) := by
  intro d
  induction d with
  | zero =>
    intro i hid
    have : i = n := by omega
    subst this
    rw [Nat.sub_self, List.replicate_zero, List.append_nil]
    refine Ev.step (fun k => by rw [packv_Left.l5]) ?_
    exact Ev.neg (Int.lt_irrefl _) (Ev.ret' rfl)
  | succ d ih =>
    intro i hid
    have hi' : i < n := by omega
    have hih := ih (i + 1) (by omega)
    have hlb : (bitsL x n).length = n := by unfold bitsL; simp
    have hb : rdB (bitsL x n) (i : Int) = (val x).testBit i := by
      show (bitsL x n).getD (i : Int).toNat false = _
      rw [Int.toNat_natCast]; exact getD_rangeM _ false n i hi'
    have hp := pairX_succ i x 1
    have hr : List.replicate (n - i) (0 : E) = 0 :: List.replicate (n - (i + 1)) 0 := by rw [show n - i = (n - (i + 1)) + 1 by omega, List.replicate_succ]
    have c3 : i < ((pairX i x 1 ++ List.replicate (n - i) (0 : E)).map toS).length := by
      rw [List.length_map, List.length_append, pairX_length, List.length_replicate]; omega
    refine Ev.step (fun k => by rw [packv_Left.l5]) (Ev.pos (by omega) (Ev.ixS (by rw [hlb]; exact hi') ?_))
    rw [hb, w64_succ hi' (by omega)]
    cases c : (val x).testBit i with
    | true =>
      refine Ev.pos rfl (Ev.bnd One_ev (Ev.ixS c3 ?_))
      have e : ((pairX i x 1 ++ List.replicate (n - i) (0 : E)).map toS).set (i : Int).toNat (toS 1) = (pairX (i + 1) x 1 ++ List.replicate (n - (i + 1)) 0).map toS := by
        rw [Int.toNat_natCast, ← List.map_set, hr, hp, c, pick_true, List.append_assoc]
        congr 1
        rw [List.set_append_right _ _ (by rw [pairX_length]; exact Nat.le_refl _), pairX_length, Nat.sub_self, List.set_cons_zero]; rfl
      rw [e]; exact hih
    | false =>
      refine Ev.neg (by decide) ?_
      rw [hp, c, pick_false, List.append_assoc] at hih
      rw [hr]; exact hih
theorem Left_ev (L : Int) (x : E) : Ev (fun k => packv_Left.f k L (toS x)) ((leftO L x).map toS) := by
  unfold packv_Left.f
  refine Ev.bnd (of_ev L x) (Ev.nd (fun c => Ev.ret' ?_) fun c => ?_)
  · have e : leftO L x = [] := if_neg c
    rw [e]; rfl
  obtain ⟨l, rfl⟩ := Int.eq_ofNat_of_zero_le c.1
  have hl : l ≤ 7 := by have := c.2.1; omega
  have h128 := w128 hl
  have e : leftO (l : Int) x = pairX (2 ^ l) x 1 := by unfold leftO; rw [if_pos c, Int.toNat_natCast]
  rw [e]
  refine Ev.bnd (psize_in hl) (Ev.pos (Int.natCast_nonneg _) (Ev.pos (by omega) (Ev.bnd (towerBits_ev hl x c) ?_)))
  have hlb : (bitsL x (2 ^ l)).length = 2 ^ l := by unfold bitsL; simp
  rw [hlb, Int.toNat_natCast, rep_zero]
  exact left_l5 x (2 ^ l) h128 (2 ^ l) 0 (Nat.zero_add _)
theorem POne_ev (L : Int) : Ev (fun k => packv_One.f k L) ((leftO L 1).map toS) := by
  unfold packv_One.f
  exact Ev.bnd One_ev (Ev.bnd (Left_ev L 1) (Ev.ret _))
def AllT (L : Int) (Ts : List (List E)) : Prop := ∀ t ∈ Ts, AllS L t
instance (L : Int) (Ts : List (List E)) : Decidable (AllT L Ts) := by unfold AllT; infer_instance
def LenT (s : Int) (Ts : List (List E)) : Prop := ∀ t ∈ Ts, (t.length : Int) = s
instance (s : Int) (Ts : List (List E)) : Decidable (LenT s Ts) := by unfold LenT; infer_instance
def rowsS (Ts : List (List E)) : List (List S38) := Ts.map fun t => t.map toS
theorem rdRows (Ts : List (List E)) (i : Nat) : B.rdL (rowsS Ts) (i : Int) = (Ts.getD i []).map toS := by
  unfold B.rdL rowsS
  rw [Int.toNat_natCast, List.getD_eq_getElem?_getD, List.getD_eq_getElem?_getD, List.getElem?_map]
  cases Ts[i]? <;> rfl
def paskE (L : Int) (Ts : List (List E)) (M : List E) : Int := if LvS L then (if LenT ((2 ^ L.toNat : Nat) : Int) Ts then (if AllT L Ts ∧ AllS L M then 0 else 5) else 6) else 1
theorem rows_drop (Ts : List (List E)) {i : Nat} (h : i < Ts.length) : Ts.drop i = Ts.getD i [] :: Ts.drop (i + 1) := by
  rw [List.drop_eq_getElem_cons h, List.getD_eq_getElem?_getD, List.getElem?_eq_getElem h]; rfl
theorem pbad0_ev (L : Int) (X : List E) (hX : X.length ≤ 4611686018427387904) : Ev (fun k => slices_ContainsFunc134_c133.f k (X.map toS) L) (decide (¬ AllS L X)) := by
  have hp : ∀ x, Ev (fun k => packv_ask_1.f k (toS x) (some L)) (decide (¬ OfS L x)) := fun x => Ev.bnd (of_ev L x) (Ev.ret' (by rw [decide_not]))
  obtain ⟨r, h1, h2⟩ := index_gen (P := OfS L) (l := fun k xs a n i => slices_IndexFunc164_c133.l2 k xs a n i) (p := packv_ask_1.f) (fun k xs n i => by rw [slices_IndexFunc164_c133.l2]) hp X hX X.length 0 (by omega)
  unfold slices_ContainsFunc134_c133.f slices_IndexFunc164_c133.f
  rw [List.length_map]
  exact Ev.bnd h1 (Ev.ret' (by rw [decide_eq_decide]; exact h2))
theorem pbad1_ev (L : Int) (X : List E) (hX : X.length ≤ 4611686018427387904) : Ev (fun k => slices_ContainsFunc126_c133.f k (X.map toS) L) (decide (¬ AllS L X)) := by
  have hp : ∀ x, Ev (fun k => packv_ask_1.f k (toS x) (some L)) (decide (¬ OfS L x)) := fun x => Ev.bnd (of_ev L x) (Ev.ret' (by rw [decide_not]))
  obtain ⟨r, h1, h2⟩ := index_gen (P := OfS L) (l := fun k xs a n i => slices_IndexFunc159_c133.l2 k xs a n i) (p := packv_ask_1.f) (fun k xs n i => by rw [slices_IndexFunc159_c133.l2]) hp X hX X.length 0 (by omega)
  unfold slices_ContainsFunc126_c133.f slices_IndexFunc159_c133.f
  rw [List.length_map]
  exact Ev.bnd h1 (Ev.ret' (by rw [decide_eq_decide]; exact h2))
theorem pask_l11 (L : Int) (Ts : List (List E)) (M : List E) (hM : M.length ≤ 1000000) (hT : ∀ t ∈ Ts, t.length ≤ 1000000) (hn : Ts.length ≤ 1000000) : ∀ (d i : Nat), i + d = Ts.length →
    Ev (fun k => packv_ask.l11 k (M.map toS) (rowsS Ts) (Ts.length : Int) (i : Int) L) (if AllT L (Ts.drop i) ∧ AllS L M then 0 else 5) := by
  intro d
  induction d with
  | zero =>
    intro i hi'
    have hz : AllT L [] := fun t ht => by cases ht
    rw [List.drop_eq_nil_of_le (by omega)]
    refine Ev.step (fun k => by rw [packv_ask.l11]) ?_
    refine Ev.neg (by omega) (Ev.bnd (pbad1_ev L M (by omega)) (Ev.dd (fun c => ?_) fun c => ?_))
    · have e : (if AllT L [] ∧ AllS L M then (0 : Int) else 5) = 5 := if_neg fun h => c h.2
      rw [e]; exact Ev.ret _
    · have e : (if AllT L [] ∧ AllS L M then (0 : Int) else 5) = 0 := if_pos ⟨hz, Classical.byContradiction c⟩
      rw [e]; exact Ev.ret _
  | succ d ih =>
    intro i hi'
    have hlt : i < Ts.length := by omega
    have hih := ih (i + 1) (by omega)
    have hl : i < (rowsS Ts).length := by unfold rowsS; rw [List.length_map]; exact hlt
    have hd : AllT L (Ts.drop i) ↔ AllS L (Ts.getD i []) ∧ AllT L (Ts.drop (i + 1)) := by
      rw [rows_drop Ts hlt]; exact List.forall_mem_cons
    have hmem : Ts.getD i [] ∈ Ts := by
      rw [List.getD_eq_getElem?_getD, List.getElem?_eq_getElem hlt]; exact List.getElem_mem hlt
    refine Ev.step (fun k => by rw [packv_ask.l11]) (Ev.pos (by omega) (Ev.ixS hl ?_))
    rw [rdRows, w64_succ hlt (by omega)]
    refine Ev.bnd (pbad0_ev L _ (by have := hT _ hmem; omega)) (Ev.dd (fun c => Ev.ret' (if_neg fun h => c (hd.1 h.1).1).symm) fun c => ?_)
    have c : AllS L (Ts.getD i []) := Classical.byContradiction c
    have e : (if AllT L (Ts.drop i) ∧ AllS L M then (0 : Int) else 5) = if AllT L (Ts.drop (i + 1)) ∧ AllS L M then 0 else 5 := by
      by_cases g : AllT L (Ts.drop (i + 1)) ∧ AllS L M
      · rw [if_pos g, if_pos ⟨hd.2 ⟨c, g.1⟩, g.2⟩]
      · rw [if_neg g, if_neg fun h => g ⟨(hd.1 h.1).2, h.2⟩]
    rw [e]; exact hih
theorem pask_ev (L : Int) (Ts : List (List E)) (M : List E) (hM : M.length ≤ 1000000) (hT : ∀ t ∈ Ts, t.length ≤ 1000000) (hn : Ts.length ≤ 1000000) : Ev (fun k => packv_ask.f k L (rowsS Ts) (M.map toS)) (paskE L Ts M) := by
  unfold packv_ask.f
  by_cases hL : LvS L
  rotate_left
  · have e : paskE L Ts M = 1 := if_neg hL
    rw [e]; exact Ev.bnd (psize_out hL) (Ev.pos rfl (Ev.ret _))
  obtain ⟨l, rfl⟩ := Int.eq_ofNat_of_zero_le hL.1
  have hl : l ≤ 7 := by have := hL.2; omega
  have hp := Nat.two_pow_pos l
  have e : paskE (l : Int) Ts M = if LenT ((2 ^ l : Nat) : Int) Ts then (if AllT (l : Int) Ts ∧ AllS (l : Int) M then 0 else 5) else 6 := by unfold paskE; rw [if_pos hL, Int.toNat_natCast]
  rw [e]
  have hrl : (rowsS Ts).length = Ts.length := by unfold rowsS; rw [List.length_map]
  have go : ∀ (d i : Nat), i + d = Ts.length → Ev (fun k => packv_ask.l4 k (rowsS Ts) (M.map toS) (rowsS Ts) (Ts.length : Int) (i : Int) (l : Int)) (if LenT ((2 ^ l : Nat) : Int) (Ts.drop i) then (if AllT (l : Int) Ts ∧ AllS (l : Int) M then 0 else 5) else 6) := by
    intro d
    induction d with
    | zero =>
      intro i hi'
      have hz : LenT ((2 ^ l : Nat) : Int) [] := fun t ht => by cases ht
      rw [List.drop_eq_nil_of_le (by omega), if_pos hz]
      refine Ev.step (fun k => by rw [packv_ask.l4]) (Ev.neg (by omega) ?_)
      rw [hrl]
      exact pask_l11 (l : Int) Ts M hM hT hn Ts.length 0 (by omega)
    | succ d ih =>
      intro i hi'
      have hlt : i < Ts.length := by omega
      have hih := ih (i + 1) (by omega)
      have hl2 : i < (rowsS Ts).length := by rw [hrl]; exact hlt
      have hd : LenT ((2 ^ l : Nat) : Int) (Ts.drop i) ↔ ((Ts.getD i []).length : Int) = ((2 ^ l : Nat) : Int) ∧ LenT ((2 ^ l : Nat) : Int) (Ts.drop (i + 1)) := by
        rw [rows_drop Ts hlt]; exact List.forall_mem_cons
      refine Ev.step (fun k => by rw [packv_ask.l4]) (Ev.pos (by omega) (Ev.ixS hl2 (Ev.bnd (psize_in hl) ?_)))
      rw [rdRows, w64_succ hlt (by omega), List.length_map]
      refine Ev.both (fun c => ?_) fun c => Ev.ret' (if_neg fun h => c (hd.1 h).1).symm
      have e : (if LenT ((2 ^ l : Nat) : Int) (Ts.drop i) then (if AllT (l : Int) Ts ∧ AllS (l : Int) M then (0 : Int) else 5) else 6) = if LenT ((2 ^ l : Nat) : Int) (Ts.drop (i + 1)) then (if AllT (l : Int) Ts ∧ AllS (l : Int) M then 0 else 5) else 6 := by
        by_cases g : LenT ((2 ^ l : Nat) : Int) (Ts.drop (i + 1))
        · rw [if_pos g, if_pos (hd.2 ⟨c, g⟩)]
        · rw [if_neg g, if_neg fun h => g (hd.1 h).2]
      rw [e]; exact hih
  refine Ev.bnd (psize_in hl) (Ev.neg (by omega) ?_)
  rw [hrl]
  exact go Ts.length 0 (by omega)
end Go.Proofs.Ytdpbogooceiaaaa.Sp
namespace Go.Proofs.Ytdpbogooceiaaaa.Sp
open Go.Proofs.Ytdpbogooceiaaaa.V.B Go.RowKit Go.Proofs.Ytdpbogooceiaaaa.B Go.Proofs.Ytdpbogooceiaaaa.V.B.Ar Go.Proofs.Ytdpbogooceiaaaa.V.B.Tw
set_option linter.unusedVariables false
/-- The bits of a sum of bits. -/
theorem bits_of_sum (b : Nat → Bool) : ∀ n, n ≤ 128 → (val (sumN (fun u => pick (b u) (bitE u)) n) < 2 ^ n ∧ ∀ j, j < n → hasB (sumN (fun u => pick (b u) (bitE u)) n) j = b j)
  | 0, _ => ⟨by rw [sumN, val_zero]; decide, fun j hj => by omega⟩
  | n + 1, h => by
    obtain ⟨h1, h2⟩ := bits_of_sum b n (by omega)
    have hp : (2 : Nat) ^ (n + 1) = 2 ^ n + 2 ^ n := by rw [Nat.pow_succ, Nat.mul_two]
    have hv : val (sumN (fun u => pick (b u) (bitE u)) (n + 1)) = val (sumN (fun u => pick (b u) (bitE u)) n) ^^^ (if b n then 2 ^ n else 0) := by
      rw [sumN, val_add, val_pick, val_bitE (by omega)]
    refine ⟨?_, fun j hj => ?_⟩
    · rw [hv]
      refine Nat.xor_lt_two_pow (by omega) ?_
      split <;> omega
    · have hj2 : hasB (sumN (fun u => pick (b u) (bitE u)) (n + 1)) j = (hasB (sumN (fun u => pick (b u) (bitE u)) n) j ^^ (if b n then 2 ^ n else 0 : Nat).testBit j) := by
        show (val _).testBit j = _
        rw [hv, Nat.testBit_xor]; rfl
      rw [hj2]
      by_cases c : j = n
      · subst c
        have h0 : hasB (sumN (fun u => pick (b u) (bitE u)) j) j = false := Nat.testBit_lt_two_pow h1
        rw [h0, Bool.false_xor]
        cases hb : b j with
        | true => rw [if_pos rfl, Nat.testBit_two_pow_self]
        | false => rw [if_neg Bool.false_ne_true, Nat.zero_testBit]
      · rw [h2 j (by omega)]
        have : (if b n then 2 ^ n else 0 : Nat).testBit j = false := by
          cases b n with
          | true => rw [if_pos rfl, Nat.testBit_two_pow]; simp; omega
          | false => rw [if_neg Bool.false_ne_true, Nat.zero_testBit]
        rw [this, Bool.xor_false]
theorem turn_twice (X : List E) (hX : X.length ≤ 128) (n : Nat) (hn : n ≤ 128) (hin : InN n X) : turnL (turnL X n) X.length = X ∧ InN X.length (turnL X n) := by
  have hl : (turnL X n).length = n := tabL_length _ _
  refine ⟨?_, ?_⟩
  · refine ext_getD (X := turnL (turnL X n) X.length) (Y := X) (tabL_length _ _) ?_
    intro i hi'
    have hi2 : i < X.length := by
      have : (turnL (turnL X n) X.length).length = X.length := tabL_length _ _
      omega
    have hg : X.getD i 0 ∈ X := by
      rw [List.getD_eq_getElem?_getD, List.getElem?_eq_getElem hi2]; exact List.getElem_mem hi2
    have h1 : (turnL (turnL X n) X.length).getD i 0 = turnN (turnL X n) (turnL X n).length i := tabL_getD _ _ i hi2
    rw [h1, hl]
    have h2 : turnN (turnL X n) n i = sumN (fun j => pick (hasB (X.getD i 0) j) (bitE j)) n := by
      unfold turnN
      apply sumN_congr
      intro j hj
      have h3 : (turnL X n).getD j 0 = turnN X X.length j := tabL_getD _ _ j hj
      rw [h3]
      unfold turnN
      rw [(bits_of_sum (fun u => hasB (X.getD u 0) j) X.length hX).2 i hi2]
    rw [h2]
    apply val_inj
    rw [val_expand _ n hn, Nat.mod_eq_of_lt (hin _ hg)]
  · intro x hx
    unfold turnL tabL at hx
    obtain ⟨j, _, rfl⟩ := List.mem_map.1 hx
    exact (bits_of_sum (fun u => hasB (X.getD u 0) j) X.length hX).1
end Go.Proofs.Ytdpbogooceiaaaa.Sp
namespace Go.Proofs.Ytdpbogooceiaaaa.Sp
open Go.Proofs.Ytdpbogooceiaaaa.V.B Go.RowKit Go.Proofs.Ytdpbogooceiaaaa.B Go.Proofs.Ytdpbogooceiaaaa.V.B.Ar Go.Proofs.Ytdpbogooceiaaaa.V.B.Tw
set_option linter.unusedVariables false
set_option linter.unusedSimpArgs false
/-- What hinders two tensors. -/
def mayT (L : Int) (S T : List E) : Int := if LvS L then (if S.length = 2 ^ L.toNat ∧ T.length = 2 ^ L.toNat then (if AllS L S ∧ AllS L T then 0 else 5) else 6) else 1
theorem pask_two (L : Int) (S T : List E) : paskE L [S, T] [] = mayT L S T := by
  have h1 : LenT ((2 ^ L.toNat : Nat) : Int) [S, T] ↔ S.length = 2 ^ L.toNat ∧ T.length = 2 ^ L.toNat := by
    unfold LenT
    simp only [List.mem_cons, List.not_mem_nil, or_false, forall_eq_or_imp, forall_eq]
    constructor
    · intro h; exact ⟨by have := h.1; omega, by have := h.2; omega⟩
    · intro h; exact ⟨by rw [h.1], by rw [h.2]⟩
  have h2 : AllT L [S, T] ∧ AllS L [] ↔ AllS L S ∧ AllS L T := by
    unfold AllT
    simp only [List.mem_cons, List.not_mem_nil, or_false, forall_eq_or_imp, forall_eq]
    exact ⟨fun h => h.1, fun h => ⟨h, fun x hx => by cases hx⟩⟩
  unfold paskE mayT
  simp only [h1, h2]
theorem pask_one (L : Int) (S : List E) : paskE L [S] [] = mayT L S S := by
  have h1 : LenT ((2 ^ L.toNat : Nat) : Int) [S] ↔ S.length = 2 ^ L.toNat ∧ S.length = 2 ^ L.toNat := by
    unfold LenT
    simp only [List.mem_cons, List.not_mem_nil, or_false, forall_eq]
    constructor
    · intro h; exact ⟨by omega, by omega⟩
    · intro h; rw [h.1]
  have h2 : AllT L [S] ∧ AllS L [] ↔ AllS L S ∧ AllS L S := by
    unfold AllT
    simp only [List.mem_cons, List.not_mem_nil, or_false, forall_eq]
    exact ⟨fun h => ⟨h.1, h.1⟩, fun h => ⟨h.1, fun x hx => by cases hx⟩⟩
  unfold paskE mayT
  simp only [h1, h2]
theorem mayT_in {L : Int} {S T : List E} (h : mayT L S T = 0) : ∃ l : Nat, L = (l : Int) ∧ l ≤ 7 ∧ S.length = 2 ^ l ∧ T.length = 2 ^ l ∧ AllS (l : Int) S ∧ AllS (l : Int) T := by
  unfold mayT at h
  split at h
  · next hL =>
    split at h
    · next hlen =>
      split at h
      · next hall =>
        obtain ⟨l, rfl⟩ := Int.eq_ofNat_of_zero_le hL.1
        rw [Int.toNat_natCast] at hlen
        exact ⟨l, rfl, by have := hL.2; omega, hlen.1, hlen.2, hall.1, hall.2⟩
      · omega
    · omega
  · omega
theorem mayT_ok {l : Nat} (hl : l ≤ 7) {S T : List E} (hS : S.length = 2 ^ l) (hT : T.length = 2 ^ l) (aS : AllS (l : Int) S) (aT : AllS (l : Int) T) : mayT (l : Int) S T = 0 := by
  unfold mayT
  rw [if_pos ⟨by omega, by omega⟩, Int.toNat_natCast, if_pos ⟨hS, hT⟩, if_pos ⟨aS, aT⟩]
def addX (S T : List E) (k : Nat) : E := S.getD k 0 + T.getD k 0
theorem TAdd_ok {l : Nat} (hl : l ≤ 7) {S T : List E} (hS : S.length = 2 ^ l) (hT : T.length = 2 ^ l) (aS : AllS (l : Int) S) (aT : AllS (l : Int) T) : Ev (fun k => packv_Add.f k (l : Int) (S.map toS) (T.map toS)) ((tabL (2 ^ l) (addX S T)).map toS, 0) := by
  have h128 := w128 hl
  have ha := pask_ev (l : Int) [S, T] [] (by decide) (by simp; omega) (by simp)
  rw [pask_two, mayT_ok hl hS hT aS aT] at ha
  unfold packv_Add.f
  refine Ev.bnd ha (Ev.pos rfl ?_)
  have hcl : Ev (fun k => slices_Clone97.f k (S.map toS)) (S.map toS) := ⟨0, fun q _ => by
    unfold slices_Clone97.f
    rw [if_pos (by rw [List.length_nil, List.length_map]; omega), List.nil_append]⟩
  refine Ev.bnd hcl ?_
  rw [List.length_map, hT]
  have e0 : S = tabL (2 ^ l) (fun u => S.getD u 0 + pick (decide (u < 0)) (T.getD u 0)) := by
    have h1 : tabL (2 ^ l) (fun u => S.getD u 0 + pick (decide (u < 0)) (T.getD u 0)) = tabL S.length (fun u => S.getD u 0) := by rw [hS]; exact tabL_congr _ (fun u _ => by rw [pickd_zero, add_zero])
    rw [h1, tabL_self]
  have go : Ev (fun k => packv_Add.l6 k (T.map toS) ((2 ^ l : Nat) : Int) ((0 : Nat) : Int) ((tabL (2 ^ l) (fun u => S.getD u 0 + pick (decide (u < 0)) (T.getD u 0))).map toS)) ((tabL (2 ^ l) (addX S T)).map toS, 0) := by
    refine Ev.down (g := fun i k => packv_Add.l6 k (T.map toS) ((2 ^ l : Nat) : Int) (i : Int) ((tabL (2 ^ l) (fun u => S.getD u 0 + pick (decide (u < i)) (T.getD u 0))).map toS)) (n := 2 ^ l) ?_ fun i hi' hih => ?_
    · refine Ev.step (fun q => by rw [packv_Add.l6]) (Ev.neg (Int.lt_irrefl _) (Ev.ret' ?_))
      rw [tabL_congr _ (fun u hu => by rw [pickd_in _ _ _ hu])]; rfl
    · have g1 : (tabL (2 ^ l) (fun u => S.getD u 0 + pick (decide (u < i)) (T.getD u 0))).getD i 0 = S.getD i 0 := by rw [tabL_getD _ _ i hi', pickd_at, add_zero]
      have c1 : i < (T.map toS).length := by rw [List.length_map]; omega
      have c2 : i < ((tabL (2 ^ l) (fun u => S.getD u 0 + pick (decide (u < i)) (T.getD u 0))).map toS).length := by rw [List.length_map, tabL_length]; exact hi'
      refine Ev.step (fun q => by rw [packv_Add.l6]) (Ev.pos (by omega) (Ev.ixS c1 (Ev.ixS c2 ?_)))
      rw [rdS, rdS, g1]
      refine Ev.bnd (Add_ev _ _) (Ev.ixS c2 ?_)
      rw [Int.toNat_natCast, map_set, w64_succ hi' (by omega)]
      have hn2 := pickd_now i (T.getD i 0)
      rw [← hn2, tabL_set (2 ^ l) _ (fun u => S.getD u 0 + pick (decide (u < i + 1)) (T.getD u 0)) i hi' (fun k _ hne => by show S.getD k 0 + _ = S.getD k 0 + _; rw [pickd_next i k _ hne])]
      exact hih
  rw [← e0] at go
  exact go
/-- Products. -/
def timesN (n : Nat) (S T : List E) (m k : Nat) : E := sumN (fun v => actT n (fun u => S.getD u 0) (bitE v) (T.getD v 0) k) m
def timesX (n : Nat) (S T : List E) (k : Nat) : E := timesN n S T n k
theorem TTimes_ok {l : Nat} (hl : l ≤ 7) {S T : List E} (hS : S.length = 2 ^ l) (hT : T.length = 2 ^ l) (aS : AllS (l : Int) S) (aT : AllS (l : Int) T) : Ev (fun k => packv_Times.f k (l : Int) (S.map toS) (T.map toS)) ((tabL (2 ^ l) (timesX (2 ^ l) S T)).map toS, 0) := by
  have h128 := w128 hl
  have ha := pask_ev (l : Int) [S, T] [] (by decide) (by simp; omega) (by simp)
  rw [pask_two, mayT_ok hl hS hT aS aT] at ha
  unfold packv_Times.f
  refine Ev.bnd ha (Ev.pos rfl (Ev.bnd (psize_in hl) (Ev.pos (Int.natCast_nonneg _) (Ev.pos (by omega) ?_))))
  rw [List.length_map, hT, Int.toNat_natCast, rep_zero, tabL_replicate]
  refine Ev.down (g := fun v k => packv_Times.l6 k (l : Int) (S.map toS) (T.map toS) ((2 ^ l : Nat) : Int) (v : Int) ((tabL (2 ^ l) (timesN (2 ^ l) S T v)).map toS)) (n := 2 ^ l) ?_ fun v hv hih => ?_
  · refine Ev.step (fun q => by rw [packv_Times.l6]) ?_
    exact Ev.neg (Int.lt_irrefl _) (Ev.ret' rfl)
  · have c1 : v < (T.map toS).length := by rw [List.length_map]; omega
    have hby := byLeft_ev hl (timesN (2 ^ l) S T v) S (bitE v) (T.getD v 0) aS (by omega) (bitE_in hl hv) (allS_getD aT v)
    have e : tabL (2 ^ l) (fun k => timesN (2 ^ l) S T v k + actT S.length (fun i => S.getD i 0) (bitE v) (T.getD v 0) k) = tabL (2 ^ l) (timesN (2 ^ l) S T (v + 1)) := by
      rw [hS]
      exact tabL_congr _ (fun k _ => by
        show _ = sumN _ (v + 1)
        rw [sumN]; rfl)
    rw [e] at hby
    refine Ev.step (fun q => by rw [packv_Times.l6]) (Ev.pos (by omega) (Ev.ixS c1 (Ev.bnd (towerBit_ev v (by omega)) ?_)))
    rw [rdS, w64_succ hv (by omega)]
    exact Ev.bnd hby hih
theorem TTimes_bad {L : Int} {S T : List E} (h : mayT L S T ≠ 0) (hS : S.length ≤ 1000000) (hT : T.length ≤ 1000000) : Ev (fun k => packv_Times.f k L (S.map toS) (T.map toS)) ([], mayT L S T) := by
  have ha := pask_ev L [S, T] [] (by decide) (by simp; omega) (by simp)
  rw [pask_two] at ha
  unfold packv_Times.f
  exact Ev.bnd ha (Ev.neg h (Ev.ret _))
theorem Turned_ok {l : Nat} (hl : l ≤ 7) {S : List E} (hS : S.length = 2 ^ l) (aS : AllS (l : Int) S) : Ev (fun k => packv_Turned.f k (l : Int) (S.map toS)) ((turnL S (2 ^ l)).map toS, 0) := by
  have h128 := w128 hl
  have ha := pask_ev (l : Int) [S] [] (by decide) (by simp; omega) (by simp)
  rw [pask_one, mayT_ok hl hS hS aS aS] at ha
  unfold packv_Turned.f
  exact Ev.bnd ha (Ev.pos rfl (Ev.bnd (psize_in hl) (Ev.bnd (Turn_ev S (by omega) (2 ^ l) h128 (fun x hx => inL_of (aS x hx))) (Ev.ret _))))
/-! ### The ring -/
/-- A product, by all pairs of bits. -/
theorem times_sum (n : Nat) (S T : List E) (k : Nat) : timesX n S T k = sumN (fun v => sumN (fun u => pick (hasB (bitE u * bitE v) k) (S.getD u 0 * T.getD v 0)) n) n := rfl
theorem times_comm (n : Nat) (S T : List E) (k : Nat) : timesX n S T k = timesX n T S k := by
  rw [times_sum, times_sum, sumN_swap]
  apply sumN_congr
  intro u _
  apply sumN_congr
  intro v _
  rw [mul_comm (bitE u), mul_comm (S.getD u 0)]
theorem times_in {l : Nat} (hl : l ≤ 7) {S T : List E} (aS : AllS (l : Int) S) (aT : AllS (l : Int) T) (n k : Nat) : InL l (timesX n S T k) := by
  rw [times_sum]
  exact sumN_in _ _ fun v _ => sumN_in _ _ fun u _ => pick_in _ (inL_mul hl (allS_getD aS u) (allS_getD aT v))
/-- Three tensors. -/
def triX (n : Nat) (S T U : List E) (k : Nat) : E := sumN (fun w => sumN (fun v => sumN (fun u => pick (hasB (bitE u * bitE v * bitE w) k) (S.getD u 0 * T.getD v 0 * U.getD w 0)) n) n) n
theorem times_tri {l : Nat} (hl : l ≤ 7) (S T U : List E) (k : Nat) : timesX (2 ^ l) (tabL (2 ^ l) (timesX (2 ^ l) S T)) U k = triX (2 ^ l) S T U k := by
  rw [times_sum]
  unfold triX
  apply sumN_congr
  intro w hw
  have e1 : ∀ m, m < 2 ^ l → pick (hasB (bitE m * bitE w) k) ((tabL (2 ^ l) (timesX (2 ^ l) S T)).getD m 0 * U.getD w 0) = sumN (fun v => sumN (fun u => pick (hasB (bitE u * bitE v) m) (pick (hasB (bitE m * bitE w) k) (S.getD u 0 * T.getD v 0 * U.getD w 0))) (2 ^ l)) (2 ^ l) := by
    intro m hm
    rw [tabL_getD _ _ m hm, times_sum, ← sumN_mulr, pick_sum]
    apply sumN_congr
    intro v _
    rw [← sumN_mulr, pick_sum]
    apply sumN_congr
    intro u _
    rw [← pick_mul, pick_comm]
  rw [sumN_congr _ e1, sumN_swap]
  apply sumN_congr
  intro v hv
  rw [sumN_swap]
  apply sumN_congr
  intro u hu
  exact has_mul hl (inL_mul hl (bitE_in hl hu) (bitE_in hl hv)) (bitE w) _ k
theorem tri_rot (n : Nat) (S T U : List E) (k : Nat) : triX n T U S k = triX n S T U k := by
  unfold triX
  -- sums over s, u, t: of T U S
  have e : ∀ w, sumN (fun v => sumN (fun u => pick (hasB (bitE u * bitE v * bitE w) k) (T.getD u 0 * U.getD v 0 * S.getD w 0)) n) n = sumN (fun v => sumN (fun u => pick (hasB (bitE w * bitE u * bitE v) k) (S.getD w 0 * T.getD u 0 * U.getD v 0)) n) n := by
    intro w
    apply sumN_congr
    intro v _
    apply sumN_congr
    intro u _
    rw [mul_comm (bitE u * bitE v), ← mul_assoc, mul_comm (T.getD u 0 * U.getD v 0), ← mul_assoc]
  rw [sumN_congr n (fun w _ => e w), sumN_swap]
  apply sumN_congr
  intro v _
  rw [sumN_swap]
theorem times_assoc {l : Nat} (hl : l ≤ 7) (S T U : List E) (k : Nat) : timesX (2 ^ l) (tabL (2 ^ l) (timesX (2 ^ l) S T)) U k = timesX (2 ^ l) S (tabL (2 ^ l) (timesX (2 ^ l) T U)) k := by
  rw [times_comm _ S, times_tri hl, times_tri hl]
  exact (tri_rot _ S T U k).symm
theorem times_add (n : Nat) (S T U : List E) (k : Nat) : timesX n S (tabL n (addX T U)) k = timesX n S T k + timesX n S U k := by
  rw [times_sum, times_sum, times_sum, ← sumN_add]
  apply sumN_congr
  intro v hv
  rw [← sumN_add]
  apply sumN_congr
  intro u _
  rw [tabL_getD _ _ v hv]
  unfold addX
  rw [mul_add, pick_add]
theorem hasB_bit {u : Nat} (h : u < 128) (k : Nat) : hasB (bitE u) k = decide (u = k) := by
  unfold hasB
  rw [val_bitE h, Nat.testBit_two_pow]
theorem times_one {l : Nat} (hl : l ≤ 7) {S : List E} (hS : S.length = 2 ^ l) {k : Nat} (hk : k < 2 ^ l) : timesX (2 ^ l) S (pairX (2 ^ l) 1 1) k = S.getD k 0 := by
  have h128 := w128 hl
  rw [times_sum, sumN_swap]
  have e1 : ∀ u, u < 2 ^ l → sumN (fun v => pick (hasB (bitE u * bitE v) k) (S.getD u 0 * (pairX (2 ^ l) 1 1).getD v 0)) (2 ^ l) = pick (decide (u = k)) (S.getD u 0) := by
    intro u hu
    have e2 : ∀ v, v < 2 ^ l → pick (hasB (bitE u * bitE v) k) (S.getD u 0 * (pairX (2 ^ l) 1 1).getD v 0) = pick (hasB 1 v) (pick (hasB (bitE v * bitE u) k) (S.getD u 0)) := by
      intro v hv
      rw [pairX_getD _ _ _ v hv]
      show pick (hasB (bitE u * bitE v) k) (S.getD u 0 * pick (hasB 1 v) 1) = _
      rw [mul_comm (S.getD u 0), ← pick_mul, one_mul, pick_comm, mul_comm (bitE u)]
    rw [sumN_congr _ e2, has_mul hl (inL_one l) (bitE u) _ k, one_mul, hasB_bit (by omega)]
  rw [sumN_congr _ e1, sumN_one _ (2 ^ l) k hk (fun u _ hne => by rw [decide_eq_false hne, pick_false]), decide_eq_true rfl, pick_true]
/-- Products go through the swap. -/
theorem turn_times {l : Nat} (hl : l ≤ 7) {S T : List E} (hS : S.length = 2 ^ l) (hT : T.length = 2 ^ l) (aS : AllS (l : Int) S) (aT : AllS (l : Int) T) {k : Nat} (hk : k < 2 ^ l) :
    turnN (tabL (2 ^ l) (timesX (2 ^ l) S T)) (2 ^ l) k = timesX (2 ^ l) (turnL S (2 ^ l)) (turnL T (2 ^ l)) k := by
  have mid : ∀ w : E, True := fun _ => trivial
  have h1 : turnN (tabL (2 ^ l) (timesX (2 ^ l) S T)) (2 ^ l) k = sumN (fun v => sumN (fun u => pick (hasB (S.getD u 0 * T.getD v 0) k) (bitE u * bitE v)) (2 ^ l)) (2 ^ l) := by
    unfold turnN
    have e1 : ∀ m, m < 2 ^ l → pick (hasB ((tabL (2 ^ l) (timesX (2 ^ l) S T)).getD m 0) k) (bitE m) = sumN (fun v => sumN (fun u => pick (hasB (S.getD u 0 * T.getD v 0) k) (pick (hasB (bitE u * bitE v) m) (bitE m))) (2 ^ l)) (2 ^ l) := by
      intro m hm
      rw [tabL_getD _ _ m hm, times_sum, pick_hasB_sum]
      apply sumN_congr
      intro v _
      rw [pick_hasB_sum]
      apply sumN_congr
      intro u _
      rw [pick_hasB_pick, pick_comm]
    rw [sumN_congr _ e1, sumN_swap]
    apply sumN_congr
    intro v hv
    rw [sumN_swap]
    apply sumN_congr
    intro u hu
    rw [← pick_sum, expand hl (inL_mul hl (bitE_in hl hu) (bitE_in hl hv))]
  rw [h1, times_sum]
  have gS : ∀ i, i < 2 ^ l → (turnL S (2 ^ l)).getD i 0 = sumN (fun u => pick (hasB (S.getD u 0) i) (bitE u)) (2 ^ l) := fun i hi' => by
    unfold turnL; rw [tabL_getD _ _ i hi', hS]; rfl
  have gT : ∀ i, i < 2 ^ l → (turnL T (2 ^ l)).getD i 0 = sumN (fun u => pick (hasB (T.getD u 0) i) (bitE u)) (2 ^ l) := fun i hi' => by
    unfold turnL; rw [tabL_getD _ _ i hi', hT]; rfl
  have e2 : ∀ j, j < 2 ^ l → sumN (fun i => pick (hasB (bitE i * bitE j) k) ((turnL S (2 ^ l)).getD i 0 * (turnL T (2 ^ l)).getD j 0)) (2 ^ l) = sumN (fun v => sumN (fun u => pick (hasB (T.getD v 0) j) (pick (hasB (bitE j * S.getD u 0) k) (bitE u * bitE v))) (2 ^ l)) (2 ^ l) := by
    intro j hj
    have e3 : ∀ i, i < 2 ^ l → pick (hasB (bitE i * bitE j) k) ((turnL S (2 ^ l)).getD i 0 * (turnL T (2 ^ l)).getD j 0) = sumN (fun v => sumN (fun u => pick (hasB (T.getD v 0) j) (pick (hasB (S.getD u 0) i) (pick (hasB (bitE i * bitE j) k) (bitE u * bitE v)))) (2 ^ l)) (2 ^ l) := by
      intro i hi'
      rw [gS i hi', gT j hj, ← sumN_mul, pick_sum]
      apply sumN_congr
      intro v _
      rw [← sumN_mulr, pick_sum]
      apply sumN_congr
      intro u _
      rw [mul_comm (pick _ (bitE u)), ← pick_mul, mul_comm (bitE v), ← pick_mul, pick_comm (hasB (bitE i * bitE j) k) (hasB (T.getD v 0) j), pick_comm (hasB (bitE i * bitE j) k) (hasB (S.getD u 0) i)]
    rw [sumN_congr _ e3, sumN_swap]
    apply sumN_congr
    intro v _
    rw [sumN_swap]
    apply sumN_congr
    intro u _
    rw [← pick_sum, has_mul hl (allS_getD aS u) (bitE j) _ k, mul_comm (bitE j)]
  rw [sumN_congr _ e2]
  symm
  rw [sumN_swap]
  apply sumN_congr
  intro v _
  rw [sumN_swap]
  apply sumN_congr
  intro u _
  rw [has_mul hl (allS_getD aT v) (S.getD u 0) _ k, mul_comm (T.getD v 0)]
end Go.Proofs.Ytdpbogooceiaaaa.Sp
namespace Go.Proofs.Ytdpbogooceiaaaa.Sp
open Go.Proofs.Ytdpbogooceiaaaa.V.B Go.RowKit Go.Proofs.Ytdpbogooceiaaaa.B Go.Proofs.Ytdpbogooceiaaaa.V.B.Ar Go.Proofs.Ytdpbogooceiaaaa.V.B.Tw
set_option linter.unusedVariables false
theorem two_ev (l : Nat) (hl : l ≤ 60) : Ev (fun k => steepleref15_Two.f k (l : Int)) ((2 ^ l : Nat) : Int) := by
  unfold steepleref15_Two.f
  refine Ev.down (g := fun i k => steepleref15_Two.l3 k (l : Int) ((2 ^ i : Nat) : Int) (i : Int)) (n := l) ?_ fun i hi' hih => ?_
  · refine Ev.step (fun k => by rw [steepleref15_Two.l3]) ?_
    exact Ev.neg (Int.lt_irrefl _) (Ev.ret _)
  · refine Ev.step (fun k => by rw [steepleref15_Two.l3]) (Ev.pos (by omega) ?_)
    have hp : (2 : Nat) ^ i ≤ 2 ^ 60 := Nat.pow_le_pow_right (by decide) (by omega)
    have e : wrap64 (2 * ((2 ^ i : Nat) : Int)) = ((2 ^ (i + 1) : Nat) : Int) := by
      rw [Nat.pow_succ]
      have h60 : (2 : Nat) ^ 60 = 1152921504606846976 := by decide
      generalize 2 ^ i = p at hp ⊢
      rw [w64_id (by omega) (by omega)]; omega
    rw [e, w64_succ hi' (by omega)]
    exact hih
end Go.Proofs.Ytdpbogooceiaaaa.Sp
namespace Go.Proofs.Ytdpbogooceiaaaa.Sp
open Go.Proofs.Ytdpbogooceiaaaa.V.B Go.RowKit Go.Proofs.Ytdpbogooceiaaaa.B Go.Proofs.Ytdpbogooceiaaaa.V.B.Ar Go.Proofs.Ytdpbogooceiaaaa.V.B.Tw
set_option linter.unusedVariables false
set_option linter.unusedSimpArgs false
/-- Which turns there are. -/
def Fit (k w s : Int) : Prop := 0 ≤ k ∧ k ≤ 3 ∧ 0 ≤ w ∧ w ≤ 6 ∧ 0 ≤ s ∧ s < ((2 ^ w.toNat : Nat) : Int) ∧ (k = 0 → s = 0)
instance (k w s : Int) : Decidable (Fit k w s) := by unfold Fit; infer_instance
theorem fits_eq (q : Nat) (k w s : Int) : turn_Fits.f q k w s = some (decide (Fit k w s)) := by
  unfold turn_Fits.f
  by_cases h1 : k ≥ 0
  · rw [if_pos h1]
    by_cases h2 : k ≤ 3
    · rw [if_pos h2]
      by_cases h3 : w ≥ 0
      · rw [if_pos h3]
        by_cases h4 : w ≤ 6
        · rw [if_pos h4]
          by_cases h5 : s ≥ 0
          · rw [if_pos h5, if_pos (show 0 ≤ w from h3)]
            obtain ⟨n, rfl⟩ := Int.eq_ofNat_of_zero_le h3
            rw [shl_i64 n (by omega)]
            by_cases h6 : s < ((2 ^ n : Nat) : Int)
            · rw [if_pos h6]
              by_cases h7 : k = 0
              · rw [if_pos h7]; congr 1; rw [Bool.eq_iff_iff]; simp only [decide_eq_true_eq]
                exact ⟨fun e => ⟨h1, h2, h3, h4, h5, by simpa using h6, fun _ => e⟩, fun h => h.2.2.2.2.2.2 h7⟩
              · rw [if_neg h7]; congr 1; symm; rw [decide_eq_true_eq]
                exact ⟨h1, h2, h3, h4, h5, by simpa using h6, fun e => absurd e h7⟩
            · rw [if_neg h6]; congr 1; symm; rw [decide_eq_false_iff_not]
              intro h; exact h6 (by simpa using h.2.2.2.2.2.1)
          · rw [if_neg h5]; congr 1; symm; rw [decide_eq_false_iff_not]; intro h; exact h5 h.2.2.2.2.1
        · rw [if_neg h4]; congr 1; symm; rw [decide_eq_false_iff_not]; intro h; exact h4 h.2.2.2.1
      · rw [if_neg h3]; congr 1; symm; rw [decide_eq_false_iff_not]; intro h; exact h3 h.2.2.1
    · rw [if_neg h2]; congr 1; symm; rw [decide_eq_false_iff_not]; intro h; exact h2 h.2.1
  · rw [if_neg h1]; congr 1; symm; rw [decide_eq_false_iff_not]; intro h; exact h1 h.1
theorem fits_ev (k w s : Int) : Ev (fun q => turn_Fits.f q k w s) (decide (Fit k w s)) := ⟨0, fun q _ => fits_eq q k w s⟩
theorem refFits_ev (k w s : Int) : Ev (fun n => steepleref18_Fits.f n k w s) (decide (Fit k w s)) := by
  unfold steepleref18_Fits.f
  have no : ¬ Fit k w s → Ev (fun q => steepleref18_Fits.j2 q) (decide (Fit k w s)) := fun h => Ev.step (fun q => by rw [steepleref18_Fits.j2]) (Ev.ret' (decide_eq_false h).symm)
  refine Ev.both (fun h1 => no fun h => ?_) fun h1 => Ev.both (fun h2 => no fun h => ?_) fun h2 => Ev.both (fun h3 => no fun h => ?_) fun h3 => Ev.both (fun h4 => no fun h => ?_) fun h4 => Ev.both (fun h5 => no fun h => ?_) fun h5 => ?_
  · have := h.1; omega
  · have := h.2.1; omega
  · have := h.2.2.1; omega
  · have := h.2.2.2.1; omega
  · have := h.2.2.2.2.1; omega
  obtain ⟨n, rfl⟩ := Int.eq_ofNat_of_zero_le (show 0 ≤ w by omega)
  refine Ev.bnd (two_ev n (by omega)) (Ev.both (fun h6 => no fun h => ?_) fun h6 => Ev.both (fun h7 => Ev.ret' ?_) fun h7 => Ev.ret' ?_)
  · have h9 := h.2.2.2.2.2.1; rw [Int.toNat_natCast] at h9; omega
  · rw [decide_eq_decide]
    exact ⟨fun e => ⟨by omega, by omega, by omega, by omega, by omega, by rw [Int.toNat_natCast]; omega, fun _ => e⟩, fun h => h.2.2.2.2.2.2 h7⟩
  · symm; rw [decide_eq_true_eq]
    exact ⟨by omega, by omega, by omega, by omega, by omega, by rw [Int.toNat_natCast]; omega, fun e => absurd e h7⟩
/-- What the bit i was, in words of N bits. -/
def fromS (k N s i : Int) : Int := if k = 2 then (if i + s < N then i + s else -1) else if s ≤ i then i - s else if k = 3 then i - s + N else -1
theorem from_ev {k w s : Int} (hf : Fit k w s) (n : Nat) (hn : w = n) (i : Int) (h0 : 0 ≤ i) (h1 : i < ((2 ^ n : Nat) : Int)) : Ev (fun q => turn_From.f q k w s i) (fromS k ((2 ^ n : Nat) : Int) s i) := by
  obtain ⟨g1, g2, g3, g4, g5, g6, g7⟩ := hf
  have hfit : Fit k w s := ⟨g1, g2, g3, g4, g5, g6, g7⟩
  subst hn
  have hN := two_pow_le (w := n) (by omega)
  rw [Int.toNat_natCast] at g6
  have hs := shl_i64 n (by omega)
  have hN0 := Nat.two_pow_pos n
  generalize 2 ^ n = N at *
  unfold turn_From.f
  have e1 : wrap64 (i + s) = i + s := w64_id (by omega) (by omega)
  have e2 : wrap64 (i - s) = i - s := w64_id (by omega) (by omega)
  have e3 : wrap64 (i - s + N) = i - s + N := w64_id (by omega) (by omega)
  refine Ev.bnd (fits_ev k (n : Int) s) (Ev.nd (fun h => absurd hfit h) fun _ => Ev.neg (by omega) (Ev.pos g3 ?_))
  rw [hs, e1]
  have j7 : Ev (fun q => turn_From.j7 q k (n : Int) s i) (if k = 3 then i - s + N else -1) := by
    refine Ev.step (fun q => by rw [turn_From.j7]) (Ev.cond (fun c => Ev.pos g3 (Ev.ret' ?_)) fun c => Ev.ret _)
    rw [hs, e2, e3]
  refine Ev.neg (by omega) ?_
  unfold fromS
  by_cases c : k = 2
  · rw [if_pos c]
    refine Ev.pos c (Ev.pos g3 (Ev.cond (fun _ => Ev.ret _) fun _ => ?_))
    refine Ev.step (fun q => by rw [turn_From.j5]) (Ev.pos c (j7.eqn ?_))
    rw [if_neg (by omega)]
  · rw [if_neg c]
    refine Ev.neg c (Ev.step (fun q => by rw [turn_From.j5]) (Ev.neg c ?_))
    rw [e2]
    by_cases c2 : s ≤ i
    · rw [if_pos c2]; exact Ev.pos c2 (Ev.ret _)
    · rw [if_neg c2]; exact Ev.neg c2 j7
theorem fromS_lt {k N s i : Int} (hs0 : 0 ≤ s) (hs : s < N) (h0 : 0 ≤ i) (h1 : i < N) : fromS k N s i < N ∧ -1 ≤ fromS k N s i := by
  unfold fromS
  split
  · split <;> omega
  · split
    · omega
    · split <;> omega
/-- Was the bit i what k is? -/
def wasB (k : Int) (N s i j : Nat) : Bool := if k = 2 then decide (j = i + s) else if k = 3 then decide ((j + s) % N = i) else decide (i = j + s)
theorem was_ev (k : Int) (n s i j : Nat) (hn : n ≤ 6) (hs : s < 2 ^ n) (hi' : i < 2 ^ n) (hj : j < 2 ^ n) : Ev (fun q => steepleref18_Was.f q k (n : Int) (s : Int) (i : Int) (j : Int)) (wasB k (2 ^ n) s i j) := by
  have hN := two_pow_le (w := n) hn
  have hN0 := Nat.two_pow_pos n
  have h1 : wrap64 ((i : Int) + (s : Int)) = ((i + s : Nat) : Int) := w64_add (by omega) (by omega)
  have h2 : wrap64 ((j : Int) + (s : Int)) = ((j + s : Nat) : Int) := w64_add (by omega) (by omega)
  unfold steepleref18_Was.f wasB
  refine Ev.bnd (two_ev n (by omega)) ?_
  rw [h1, h2]
  refine Ev.cond (fun _ => Ev.ret' ?_) fun _ => Ev.cond (fun _ => Ev.neg (by omega) (Ev.ret' ?_)) fun _ => Ev.ret' ?_
  · rw [decide_eq_decide]; omega
  · rw [decide_eq_decide, ← Int.ofNat_tmod]; omega
  · rw [decide_eq_decide]; omega
theorem from_was {k : Int} {N s i j : Nat} (hs : s < N) (hi' : i < N) (hj : j < N) : fromS k (N : Int) (s : Int) (i : Int) = (j : Int) ↔ wasB k N s i j = true := by
  unfold fromS wasB
  by_cases c : k = 2
  · rw [if_pos c, if_pos c, decide_eq_true_eq]
    split <;> omega
  rw [if_neg c, if_neg c]
  by_cases c3 : k = 3
  · rw [if_pos c3, if_pos c3, decide_eq_true_eq]
    by_cases g : j + s < N
    · rw [Nat.mod_eq_of_lt g]; split <;> omega
    · rw [Nat.mod_eq_sub_mod (by omega), Nat.mod_eq_of_lt (by omega)]; split <;> omega
  · rw [if_neg c3, if_neg c3, decide_eq_true_eq]
    split <;> omega
end Go.Proofs.Ytdpbogooceiaaaa.Sp
namespace Go.Proofs.Ytdpbogooceiaaaa.Sp
open Go.Proofs.Ytdpbogooceiaaaa.V.B Go.RowKit Go.Proofs.Ytdpbogooceiaaaa.B Go.Proofs.Ytdpbogooceiaaaa.V.B.Ar Go.Proofs.Ytdpbogooceiaaaa.V.B.Tw
set_option linter.unusedVariables false
set_option linter.unusedSimpArgs false
/-- A corner's weight in one variable. -/
def wt (p : E) (b : Nat) : E := if b = 1 then p else p + 1
/-- The weights of corners i of j bits and what becomes of them, s more, with carry c. -/
def sumF (A B : List E) (s c j i : Nat) : E := pick (decide ((i + s % 2 ^ j) / 2 ^ j = c)) (weight (A.take j) i * weight (B.take j) ((i + s % 2 ^ j) % 2 ^ j))
def sumS (A B : List E) (s c j : Nat) : E := sumN (sumF A B s c j) (2 ^ j)
theorem take_snoc (A : List E) (j : Nat) (h : j < A.length) : A.take (j + 1) = A.take j ++ [A.getD j 0] := by
  rw [List.take_succ_eq_append_getElem h, List.getD_eq_getElem?_getD, List.getElem?_eq_getElem h]; rfl
theorem weight_bit (A : List E) (j : Nat) (h : j < A.length) (k b : Nat) (hk : k < 2 ^ j) (hb : b < 2) : weight (A.take (j + 1)) (k + 2 ^ j * b) = weight (A.take j) k * wt (A.getD j 0) b := by
  have hl : (A.take j).length = j := by rw [List.length_take]; omega
  rw [take_snoc A j h]
  have e : b = 0 ∨ b = 1 := by omega
  rcases e with rfl | rfl
  · rw [Nat.mul_zero, Nat.add_zero, weight_low _ _ _ (by rw [hl]; exact hk)]
    unfold wt; rw [if_neg (by decide), add_comm 1]
  · have := weight_up (A.getD j 0) (A.take j) k (by rw [hl]; exact hk)
    rw [hl] at this
    rw [Nat.mul_one, Nat.add_comm, this]
    unfold wt; rw [if_pos rfl]
theorem shift_div (k q j : Nat) (hk : k < 2 ^ j) : (k + 2 ^ j * q) / 2 ^ (j + 1) = q / 2 ∧ (k + 2 ^ j * q) % 2 ^ (j + 1) = k + 2 ^ j * (q % 2) := by
  have hp := Nat.two_pow_pos j
  have h1 : (k + 2 ^ j * q) / 2 ^ j = q := by rw [Nat.add_mul_div_left _ _ hp, Nat.div_eq_of_lt hk, Nat.zero_add]
  have h2 : (k + 2 ^ j * q) % 2 ^ j = k := by rw [Nat.add_mul_mod_self_left, Nat.mod_eq_of_lt hk]
  refine ⟨by rw [Nat.pow_succ, ← Nat.div_div_eq_div_mul, h1], ?_⟩
  rw [Nat.pow_succ, Nat.mod_mul, h1, h2]
theorem pick_two (c : Nat) (hc : c < 2) (f : Nat → E) : f c = pick (decide (c = 0)) (f 0) + pick (decide (c = 1)) (f 1) := by
  have e : c = 0 ∨ c = 1 := by omega
  rcases e with rfl | rfl
  · rw [decide_eq_true rfl, decide_eq_false (by decide), pick_true, pick_false, add_zero]
  · rw [decide_eq_true rfl, decide_eq_false (by decide), pick_true, pick_false, zero_add]
/-- What one pair of a bit and a carry gives. -/
def termS (A B : List E) (s d j m : Nat) : E := pick (decide ((m % 2 + s / 2 ^ j % 2 + m / 2) / 2 = d)) (sumS A B s (m / 2) j * (wt (A.getD j 0) (m % 2) * wt (B.getD j 0) ((m % 2 + s / 2 ^ j % 2 + m / 2) % 2)))
theorem sumS_half (A B : List E) (s d j bit : Nat) (hb : bit < 2) (hA : j < A.length) (hB : j < B.length) :
    sumN (fun i => sumF A B s d (j + 1) (2 ^ j * bit + i)) (2 ^ j) = termS A B s d j bit + termS A B s d j (2 + bit) := by
  have hp := Nat.two_pow_pos j
  have hbm : bit % 2 = bit ∧ bit / 2 = 0 ∧ (2 + bit) % 2 = bit ∧ (2 + bit) / 2 = 1 := by omega
  unfold termS
  rw [hbm.1, hbm.2.1, hbm.2.2.1, hbm.2.2.2]
  unfold sumS
  rw [← sumN_mulr, ← sumN_mulr, pick_sum, pick_sum, ← sumN_add]
  apply sumN_congr
  intro i hi'
  have hk : (i + s % 2 ^ j) % 2 ^ j < 2 ^ j := Nat.mod_lt _ hp
  have hc : (i + s % 2 ^ j) / 2 ^ j < 2 := by
    rw [Nat.div_lt_iff_lt_mul hp]
    have := Nat.mod_lt s hp
    omega
  have hs : s % 2 ^ (j + 1) = s % 2 ^ j + 2 ^ j * (s / 2 ^ j % 2) := Nat.mod_pow_succ
  have ht : 2 ^ j * bit + i + s % 2 ^ (j + 1) = (i + s % 2 ^ j) % 2 ^ j + 2 ^ j * ((i + s % 2 ^ j) / 2 ^ j + bit + s / 2 ^ j % 2) := by
    have := Nat.mod_add_div (i + s % 2 ^ j) (2 ^ j)
    rw [hs, Nat.mul_add, Nat.mul_add]
    omega
  have hd := shift_div _ ((i + s % 2 ^ j) / 2 ^ j + bit + s / 2 ^ j % 2) j hk
  rw [← ht] at hd
  unfold sumF
  rw [hd.1, hd.2, Nat.add_comm (2 ^ j * bit) i, weight_bit A j hA i bit hi' hb, weight_bit B j hB _ _ hk (Nat.mod_lt _ (by decide))]
  generalize weight (A.take j) i = x
  generalize weight (B.take j) ((i + s % 2 ^ j) % 2 ^ j) = y
  generalize (i + s % 2 ^ j) / 2 ^ j = c at hc
  generalize s / 2 ^ j % 2 = g
  rw [pick_two c hc (fun c => pick (decide ((c + bit + g) / 2 = d)) (x * wt (A.getD j 0) bit * (y * wt (B.getD j 0) ((c + bit + g) % 2))))]
  have e0 : 0 + bit + g = bit + g + 0 := by omega
  have e1 : 1 + bit + g = bit + g + 1 := by omega
  have em : ∀ u v : E, x * u * (y * v) = x * y * (u * v) := fun u v => by rw [mul_assoc, mul_assoc, mul_left_comm u]
  have p : ∀ (b1 b2 : Bool) (u v : E), pick b1 (pick b2 (u * v)) = pick b2 (pick b1 u * v) := fun b1 b2 u v => by rw [pick_comm, pick_mul]
  rw [e0, e1, em, em, p, p]
theorem sumS_step (A B : List E) (s d j : Nat) (hA : j < A.length) (hB : j < B.length) : sumS A B s d (j + 1) = sumN (termS A B s d j) 4 := by
  have h0 := sumS_half A B s d j 0 (by decide) hA hB
  have h1 := sumS_half A B s d j 1 (by decide) hA hB
  have e : (2 : Nat) ^ (j + 1) = 2 ^ j + 2 ^ j := by rw [Nat.pow_succ]; omega
  have hu : sumS A B s d (j + 1) = sumN (sumF A B s d (j + 1)) (2 ^ (j + 1)) := rfl
  rw [hu, e, sumN_split]
  simp only [Nat.mul_zero, Nat.zero_add, Nat.mul_one] at h0 h1
  rw [h0, h1]
  show _ = sumN _ (0 + 1 + 1 + 1 + 1)
  simp only [sumN, zero_add, Nat.zero_add, Nat.add_zero, Nat.reduceAdd]
  rw [add_assoc, add_assoc, add_assoc, add_left_comm (termS A B s d j 2)]
theorem sumS_zero (A B : List E) (s c : Nat) : sumS A B s c 0 = pick (decide (c = 0)) 1 := by
  show sumN (sumF A B s c 0) (0 + 1) = _
  rw [sumN, sumN, zero_add]
  unfold sumF
  have h1 : (0 + s % 2 ^ 0) / 2 ^ 0 = 0 := by rw [Nat.pow_zero, Nat.mod_one]
  have h2 : (0 + s % 2 ^ 0) % 2 ^ 0 = 0 := by rw [Nat.pow_zero, Nat.mod_one]
  have h3 : (decide (0 = c)) = decide (c = 0) := by rw [decide_eq_decide]; exact eq_comm
  rw [h1, h2, h3, List.take_zero, List.take_zero]
  show pick _ ((1 : E) * 1) = _
  rw [mul_one]
/-- The sign at two points, as the document tells it. -/
def signX (k : Int) (N s : Nat) (X Y : List E) : E := sumN (fun i => sumN (fun j => pick (wasB k N s i j) (weight X i * weight Y j)) N) N
def signAt (k : Int) (N s : Nat) (X : List E) (j : Nat) : E := sumN (fun i => pick (wasB k N s i j) (weight X i)) N
theorem sumS_end (A B : List E) (s c n : Nat) (hA : A.length = n) (hB : B.length = n) (hs : s < 2 ^ n) : sumS A B s c n = sumN (fun i => pick (decide ((i + s) / 2 ^ n = c)) (weight A i * weight B ((i + s) % 2 ^ n))) (2 ^ n) := by
  unfold sumS
  apply sumN_congr
  intro i _
  unfold sumF
  rw [Nat.mod_eq_of_lt hs, List.take_of_length_le (by omega), List.take_of_length_le (by omega)]
theorem sum_at (N a : Nat) (f : Nat → E) (h : a < N) : sumN (fun j => pick (decide (j = a)) (f j)) N = f a := by
  rw [sumN_one (fun j => pick (decide (j = a)) (f j)) N a h (fun j _ hne => by
    show pick (decide (j = a)) (f j) = 0
    rw [decide_eq_false hne, pick_false])]
  show pick (decide (a = a)) (f a) = f a
  rw [decide_eq_true rfl, pick_true]
theorem sum_none (N : Nat) (f : Nat → E) (h : ∀ j, j < N → f j = 0) : sumN f N = 0 := by
  rw [sumN_congr N h, sumN_zero]
/-- i + s = j: without a carry. -/
theorem sum_plus (A B : List E) (s n : Nat) (hA : A.length = n) (hB : B.length = n) (hs : s < 2 ^ n) : sumS A B s 0 n = sumN (fun i => sumN (fun j => pick (decide (j = i + s)) (weight A i * weight B j)) (2 ^ n)) (2 ^ n) := by
  rw [sumS_end A B s 0 n hA hB hs]
  apply sumN_congr
  intro i hi'
  have hp := Nat.two_pow_pos n
  by_cases c : i + s < 2 ^ n
  · rw [Nat.div_eq_of_lt c, Nat.mod_eq_of_lt c, decide_eq_true rfl, pick_true, sum_at (2 ^ n) (i + s) (fun j => weight A i * weight B j) c]
  · have h1 : ¬ (i + s) / 2 ^ n = 0 := fun h => by rw [Nat.div_eq_zero_iff] at h; omega
    rw [decide_eq_false h1, pick_false, sum_none]
    intro j hj
    rw [decide_eq_false (by omega), pick_false]
theorem sum_round (A B : List E) (s n : Nat) (hA : A.length = n) (hB : B.length = n) (hs : s < 2 ^ n) : sumS A B s 0 n + sumS A B s 1 n = sumN (fun i => sumN (fun j => pick (decide ((i + s) % 2 ^ n = j)) (weight A i * weight B j)) (2 ^ n)) (2 ^ n) := by
  rw [sumS_end A B s 0 n hA hB hs, sumS_end A B s 1 n hA hB hs, ← sumN_add]
  apply sumN_congr
  intro i hi'
  have hp := Nat.two_pow_pos n
  have hc : (i + s) / 2 ^ n < 2 := by rw [Nat.div_lt_iff_lt_mul hp]; omega
  rw [← pick_two _ hc (fun _ => weight A i * weight B ((i + s) % 2 ^ n))]
  have e : ∀ j, (decide ((i + s) % 2 ^ n = j)) = decide (j = (i + s) % 2 ^ n) := fun j => by rw [decide_eq_decide]; exact eq_comm
  simp only [e]
  exact (sum_at (2 ^ n) _ (fun j => weight A i * weight B j) (Nat.mod_lt _ hp)).symm
/-- What the program sums, by the kind of turn. -/
def signP (k : Int) (s n : Nat) (X Y : List E) : E := if k = 2 then sumS X Y s 0 n else if k = 3 then sumS Y X s 0 n + sumS Y X s 1 n else sumS Y X s 0 n
theorem signP_eq (k : Int) (s n : Nat) (X Y : List E) (hX : X.length = n) (hY : Y.length = n) (hs : s < 2 ^ n) : signP k s n X Y = signX k (2 ^ n) s X Y := by
  unfold signP signX wasB
  by_cases c : k = 2
  · rw [if_pos c, sum_plus X Y s n hX hY hs]
    simp only [if_pos c]
  rw [if_neg c]
  simp only [if_neg c]
  by_cases c3 : k = 3
  · rw [if_pos c3, sum_round Y X s n hY hX hs, sumN_swap]
    simp only [if_pos c3]
    exact sumN_congr _ fun i _ => sumN_congr _ fun j _ => by rw [mul_comm (weight X i)]
  · rw [if_neg c3, sum_plus Y X s n hY hX hs, sumN_swap]
    simp only [if_neg c3]
    exact sumN_congr _ fun i _ => sumN_congr _ fun j _ => by rw [mul_comm (weight X i)]
end Go.Proofs.Ytdpbogooceiaaaa.Sp
namespace Go.Proofs.Ytdpbogooceiaaaa.Sp
open Go.Proofs.Ytdpbogooceiaaaa.V.B Go.RowKit Go.Proofs.Ytdpbogooceiaaaa.B Go.Proofs.Ytdpbogooceiaaaa.V.B.Ar Go.Proofs.Ytdpbogooceiaaaa.V.B.Tw
set_option linter.unusedVariables false
set_option linter.unusedSimpArgs false
theorem Ev.at {α : Type} {g : Nat → Option α} {r : α} (K : Nat) (h : ∀ k, g (k + K) = some r) : Ev g r := ⟨K, fun k hk => by
  obtain ⟨m, rfl⟩ := Nat.exists_eq_add_of_le' hk
  exact h m⟩
theorem awake18_ev : Ev (fun k => steeplelaw18_awake.f k) true := Ev.at 40 fun k => by kernel_rfl
def pointE (L : Int) (w : Int) (X : List E) : Int := if (X.length : Int) = w then (if AllS L X then 0 else 5) else 6
theorem point_ev (L w : Int) (X : List E) (hX : X.length ≤ 4611686018427387904) : Ev (fun k => turn_point.f k L w (X.map toS)) (pointE L w X) := by
  have hp : ∀ x, Ev (fun k => turn_point_1.f k (toS x) (some L)) (decide (¬ OfS L x)) := fun x => Ev.bnd (of_ev L x) (Ev.ret' (by rw [decide_not]))
  obtain ⟨r, h1, h2⟩ := index_gen (P := OfS L) (l := fun k xs a n i => slices_IndexFunc159_c127.l2 k xs a n i) (p := turn_point_1.f) (fun k xs n i => by rw [slices_IndexFunc159_c127.l2]) hp X hX X.length 0 (by omega)
  have h2 : r ≥ 0 ↔ ¬ AllS L X := h2
  unfold turn_point.f pointE
  rw [List.length_map]
  refine Ev.cond (fun c => ?_) fun c => Ev.ret _
  unfold slices_ContainsFunc126_c127.f slices_IndexFunc159_c127.f
  rw [List.length_map]
  refine Ev.bnd (Ev.bnd h1 (Ev.ret _)) (Ev.both (fun g => Ev.ret' ?_) fun g => Ev.ret' ?_)
  · rw [if_neg (h2.1 (of_decide_eq_true g))]
  · by_cases a : AllS L X
    · rw [if_pos a]
    · exact absurd (decide_eq_true (h2.2 a)) g
theorem turnWeight_ev (x : E) (b : Nat) : Ev (fun k => turn_weight.f k (toS x) (b : Int)) (toS (wt x b)) := by
  unfold turn_weight.f wt
  refine Ev.both (fun c => Ev.ret' ?_) fun c => Ev.bnd One_ev (Ev.bnd (Add_ev _ _) (Ev.ret' ?_))
  · rw [if_pos (by omega)]
  · rw [if_neg (by omega)]
theorem and1 (n : Nat) (h : n < 2 ^ 63) : Go.bits .and .i64 (n : Int) 1 = ((n % 2 : Nat) : Int) := by
  have h1 := and_one n 0 h (by decide)
  rw [shr_i64 n 0 (by decide), Nat.pow_zero, Nat.div_one] at h1
  exact h1
theorem wt_in {l : Nat} {x : E} (b : Nat) (h : InL l x) : InL l (wt x b) := by
  unfold wt
  split
  · exact h
  · exact inL_add h (inL_one l)
theorem sumS_in {l : Nat} (hl : l ≤ 7) {A B : List E} (hA : AllS (l : Int) A) (hB : AllS (l : Int) B) (s c j : Nat) : InL l (sumS A B s c j) :=
  sumN_in _ _ fun i _ => pick_in _ (inL_mul hl (weight_in hl _ _ fun p hp => inL_all hA p (List.mem_of_mem_take hp)) (weight_in hl _ _ fun p hp => inL_all hB p (List.mem_of_mem_take hp)))
theorem sum_arith (m s j : Nat) (hm : m < 4) (hs : s < 2 ^ 63) (hj : j ≤ 60) : Go.bits .and .i64 (m : Int) 1 = ((m % 2 : Nat) : Int) ∧ Go.bits .and .i64 (shr .i64 (s : Int) (j : Int)) 1 = ((s / 2 ^ j % 2 : Nat) : Int) ∧ shr .i64 (m : Int) 1 = ((m / 2 : Nat) : Int) ∧ wrap64 ((wrap64 (((m % 2 : Nat) : Int) + ((s / 2 ^ j % 2 : Nat) : Int))) + ((m / 2 : Nat) : Int)) = ((m % 2 + s / 2 ^ j % 2 + m / 2 : Nat) : Int) ∧ wrap64 ((m : Int) + 1) = ((m + 1 : Nat) : Int) := by
  have hg := Nat.mod_lt (s / 2 ^ j) (show 0 < 2 by decide)
  refine ⟨and1 m (by omega), and_one s j hs (by omega), shr_i64 m 1 (by decide), ?_, w64_succ hm (by decide)⟩
  generalize s / 2 ^ j % 2 = g at hg
  rw [w64_add (i := m % 2) (j := g) (by omega) (by omega), w64_add (by omega) (by omega)]
theorem sum_arith2 (q : Nat) (hq : q ≤ 3) : Go.bits .and .i64 (q : Int) 1 = ((q % 2 : Nat) : Int) ∧ shr .i64 (q : Int) 1 = ((q / 2 : Nat) : Int) := ⟨and1 q (by omega), shr_i64 q 1 (by decide)⟩
theorem sums_l7 {l : Nat} (hl : l ≤ 7) (A B : List E) (hA : AllS (l : Int) A) (hB : AllS (l : Int) B) (s j : Nat) (hs : s < 2 ^ 63) (hjA : j < A.length) (hjB : j < B.length) (hjm : j ≤ 60) (n : Int) {R : List S38}
    (h : Ev (fun k => turn_sums.l3 k (l : Int) (s : Int) (A.map toS) (B.map toS) n (wrap64 ((j : Int) + 1)) (List.replicate 2 z38) ((tabL 2 (fun d => sumS A B s d (j + 1))).map toS)) R) :
    Ev (fun k => turn_sums.l7 k (l : Int) (s : Int) (A.map toS) (B.map toS) (j : Int) n (j : Int) 0 (List.replicate 2 z38) ((tabL 2 (fun d => sumS A B s d j)).map toS) (List.replicate 2 z38)) R := by
  have e0 : List.replicate 2 z38 = (tabL 2 (fun d => sumN (termS A B s d j) 0)).map toS := by rw [rep_zero, tabL_replicate]; rfl
  have go : Ev (fun k => turn_sums.l7 k (l : Int) (s : Int) (A.map toS) (B.map toS) (j : Int) n (j : Int) ((0 : Nat) : Int) (List.replicate 2 z38) ((tabL 2 (fun d => sumS A B s d j)).map toS) ((tabL 2 (fun d => sumN (termS A B s d j) 0)).map toS)) R := by
    refine Ev.down (g := fun m k => turn_sums.l7 k (l : Int) (s : Int) (A.map toS) (B.map toS) (j : Int) n (j : Int) (m : Int) (List.replicate 2 z38) ((tabL 2 (fun d => sumS A B s d j)).map toS) ((tabL 2 (fun d => sumN (termS A B s d j) m)).map toS)) (n := 4) ?_ fun m hm hih => ?_
    · refine Ev.step (fun k => by rw [turn_sums.l7]) (Ev.neg (by decide) ?_)
      have e : tabL 2 (fun d => sumN (termS A B s d j) 4) = tabL 2 (fun d => sumS A B s d (j + 1)) := tabL_congr _ fun d _ => (sumS_step A B s d j hjA hjB).symm
      rw [e]
      exact h
    · have hg := Nat.mod_lt (s / 2 ^ j) (show 0 < 2 by decide)
      have hterm : ∀ d, sumN (termS A B s d j) (m + 1) = sumN (termS A B s d j) m + termS A B s d j m := fun d => rfl
      have ht : ∀ d, termS A B s d j m = pick (decide ((m % 2 + s / 2 ^ j % 2 + m / 2) / 2 = d)) (sumS A B s (m / 2) j * (wt (A.getD j 0) (m % 2) * wt (B.getD j 0) ((m % 2 + s / 2 ^ j % 2 + m / 2) % 2))) := fun d => rfl
      have hq3 : m % 2 + s / 2 ^ j % 2 + m / 2 ≤ 3 := by omega
      have c1 : (m : Int) < 4 := by omega
      have c2 : j < (A.map toS).length := by rw [List.length_map]; exact hjA
      have c3 : j < (B.map toS).length := by rw [List.length_map]; exact hjB
      have c5 : m / 2 < 2 := by omega
      obtain ⟨a1, a2, a3, a4, hs4⟩ := sum_arith m s j hm hs hjm
      generalize m % 2 + s / 2 ^ j % 2 + m / 2 = q at a4 ht hq3
      have c4 : q / 2 < 2 := by clear a1 a2 a3 a4 hs4; omega
      obtain ⟨a5, a6⟩ := sum_arith2 q hq3
      refine Ev.step (fun k => by rw [turn_sums.l7]) ?_
      rw [a1, a2, a3, a4, a5, a6, hs4]
      refine Ev.pos c1 (Ev.pos (Int.natCast_nonneg _) (Ev.ixS c2 ?_))
      rw [rdS, rdS, rdS, rdS, tabL_getD _ _ (m / 2) c5, tabL_getD _ _ (q / 2) c4]
      refine Ev.bnd (turnWeight_ev _ _) (Ev.ixS c3 (Ev.bnd (turnWeight_ev _ _) (Ev.bnd (Mul_ev hl (wt_in _ (allS_getD hA j)) (wt_in _ (allS_getD hB j))) (Ev.ix c4 (Ev.ix c5 ?_)))))
      refine Ev.bnd (Mul_ev hl (sumS_in hl hA hB s (m / 2) j) (inL_mul hl (wt_in _ (allS_getD hA j)) (wt_in _ (allS_getD hB j)))) (Ev.bnd (Add_ev _ _) (Ev.ix c4 ?_))
      rw [Int.toNat_natCast, map_set]
      have e : (tabL 2 (fun d => sumN (termS A B s d j) m)).set (q / 2) (sumN (termS A B s (q / 2) j) m + sumS A B s (m / 2) j * (wt (A.getD j 0) (m % 2) * wt (B.getD j 0) (q % 2))) = tabL 2 (fun d => sumN (termS A B s d j) (m + 1)) := by
        have hx : sumN (termS A B s (q / 2) j) m + sumS A B s (m / 2) j * (wt (A.getD j 0) (m % 2) * wt (B.getD j 0) (q % 2)) = sumN (termS A B s (q / 2) j) (m + 1) := by rw [hterm, ht, decide_eq_true rfl, pick_true]
        rw [hx]
        exact tabL_set 2 (fun d => sumN (termS A B s d j) m) (fun d => sumN (termS A B s d j) (m + 1)) (q / 2) c4 (fun d _ hne => by
          show sumN (termS A B s d j) (m + 1) = sumN (termS A B s d j) m
          rw [hterm, ht, decide_eq_false (fun h => hne h.symm), pick_false, add_zero])
      rw [e]
      exact hih
  rw [← e0] at go
  exact go
theorem sums_ev {l : Nat} (hl : l ≤ 7) (A B : List E) (hA : AllS (l : Int) A) (hB : AllS (l : Int) B) (s : Nat) (hs : s < 2 ^ 63) (hlen : A.length = B.length) (hjm : A.length ≤ 60) :
    Ev (fun k => turn_sums.f k (l : Int) (s : Int) (A.map toS) (B.map toS)) ((tabL 2 (fun d => sumS A B s d A.length)).map toS) := by
  unfold turn_sums.f
  refine Ev.bnd One_ev ?_
  rw [List.length_map]
  have e0 : [toS 1, (⟨0, 0⟩ : S38)] = (tabL 2 (fun d => sumS A B s d 0)).map toS := by
    have h0 : (⟨0, 0⟩ : S38) = toS 0 := toS_zero.symm
    have h1 : tabL 2 (fun d => sumS A B s d 0) = [sumS A B s 0 0, sumS A B s 1 0] := rfl
    rw [h0, h1, sumS_zero, sumS_zero, decide_eq_true rfl, decide_eq_false (by decide), pick_true, pick_false]
    rfl
  rw [e0]
  refine Ev.down (g := fun j k => turn_sums.l3 k (l : Int) (s : Int) (A.map toS) (B.map toS) (A.length : Int) (j : Int) (List.replicate 2 z38) ((tabL 2 (fun d => sumS A B s d j)).map toS)) (n := A.length) ?_ fun j hj hih => ?_
  · exact Ev.step (fun k => by rw [turn_sums.l3]) (Ev.neg (Int.lt_irrefl _) (Ev.ret _))
  · refine Ev.step (fun k => by rw [turn_sums.l3]) (Ev.pos (by omega) ?_)
    refine sums_l7 hl A B hA hB s j hs hj (by omega) (by omega) _ ?_
    rw [w64_succ hj (by omega)]
    exact hih
end Go.Proofs.Ytdpbogooceiaaaa.Sp
namespace Go.Proofs.Ytdpbogooceiaaaa.Sp
open Go.Proofs.Ytdpbogooceiaaaa.V.B Go.RowKit Go.Proofs.Ytdpbogooceiaaaa.B Go.Proofs.Ytdpbogooceiaaaa.V.B.Ar Go.Proofs.Ytdpbogooceiaaaa.V.B.Tw
set_option linter.unusedVariables false
theorem awake19_ev : Ev (fun k => steeplelaw19_awake.f k) true := Ev.at 60 fun k => by kernel_rfl
theorem alike19_ev (X Y : List E) (hX : X.length ≤ 1000000) (hY : Y.length ≤ 1000000) : Ev (fun k => steeplelaw19_alike.f k (X.map toS) (Y.map toS)) (decide (X = Y)) := by
  unfold steeplelaw19_alike.f
  exact Ev.bnd (Ref_ev Y hY) (Ev.bnd (Same_ev X Y hX) (Ev.ret _))
theorem few19_l4 (Ts : List (List E)) (hn : Ts.length ≤ 1000000) : ∀ (d i : Nat), i + d = Ts.length → ∃ r : Bool, Ev (fun k => steeplelaw19_few.l4 k (rowsS Ts) (i : Int)) r ∧ (r = true → ∀ t ∈ Ts.drop i, t.length ≤ 20) := by
  have hrl : (rowsS Ts).length = Ts.length := by unfold rowsS; rw [List.length_map]
  intro d
  induction d with
  | zero =>
    intro i hi'
    refine ⟨true, Ev.step (fun k => by rw [steeplelaw19_few.l4]) (Ev.neg (by rw [hrl]; omega) (Ev.ret _)), fun _ t ht => ?_⟩
    rw [List.drop_eq_nil_of_le (by omega)] at ht; cases ht
  | succ d ih =>
    intro i hi'
    have hlt : i < Ts.length := by omega
    obtain ⟨r, h1, h2⟩ := ih (i + 1) (by omega)
    have hl : i < (rowsS Ts).length := by rw [hrl]; exact hlt
    have go : ∀ {r : Bool}, Ev (fun k => if ((Ts.getD i []).length : Int) > 20 then some false else steeplelaw19_few.l4 k (rowsS Ts) ((i + 1 : Nat) : Int)) r → Ev (fun k => steeplelaw19_few.l4 k (rowsS Ts) (i : Int)) r := fun h => by
      refine Ev.step (fun k => by rw [steeplelaw19_few.l4]) (Ev.pos (by rw [hrl]; omega) (Ev.ixS hl ?_))
      rw [rdRows, w64_succ hlt (by omega), List.length_map]
      exact h
    by_cases c : ((Ts.getD i []).length : Int) > 20
    · exact ⟨false, go (Ev.pos c (Ev.ret _)), fun e => by cases e⟩
    · refine ⟨r, go (Ev.neg c h1), fun e t ht => ?_⟩
      rw [rows_drop Ts hlt] at ht
      rcases List.mem_cons.1 ht with rfl | ht
      · omega
      · exact h2 e t ht
theorem few19_ev (L : Int) (Ts : List (List E)) (hn : Ts.length ≤ 1000000) : ∃ r : Bool, Ev (fun k => steeplelaw19_few.f k L (rowsS Ts)) r ∧ (r = true → ∀ t ∈ Ts, t.length ≤ 20) := by
  obtain ⟨r, h1, h2⟩ := few19_l4 Ts hn Ts.length 0 (by omega)
  unfold steeplelaw19_few.f
  by_cases c : L > 4
  · by_cases c2 : L ≤ 7
    · exact ⟨false, Ev.pos c (Ev.pos c2 (Ev.ret _)), fun e => by cases e⟩
    · exact ⟨r, Ev.pos c (Ev.neg c2 h1), h2⟩
  · exact ⟨r, Ev.neg c h1, h2⟩
theorem TTimes_ev (L : Int) (S T : List E) (hS : S.length ≤ 1000000) (hT : T.length ≤ 1000000) : Ev (fun k => packv_Times.f k L (S.map toS) (T.map toS)) (if mayT L S T = 0 then ((tabL (2 ^ L.toNat) (timesX (2 ^ L.toNat) S T)).map toS, 0) else ([], mayT L S T)) := by
  by_cases h : mayT L S T = 0
  · rw [if_pos h]
    obtain ⟨l, rfl, hl, h1, h2, h3, h4⟩ := mayT_in h
    rw [Int.toNat_natCast]
    exact TTimes_ok hl h1 h2 h3 h4
  · rw [if_neg h]
    exact TTimes_bad h hS hT
end Go.Proofs.Ytdpbogooceiaaaa.Sp
namespace Go.Proofs.Ytdpbogooceiaaaa.Pure
open Go.Proofs.Ytdpbogooceiaaaa.V.B Go.RowKit Go.Proofs.Ytdpbogooceiaaaa.B Go.Proofs.Ytdpbogooceiaaaa.V.B.Ar Go.Proofs.Ytdpbogooceiaaaa.V.B.Tw Go.Proofs.Ytdpbogooceiaaaa.Sp
set_option linter.unusedVariables false
theorem PackvRing : Stated.packvRing.Pure := by
  intro L x h0 h1
  obtain ⟨a, b, c, rfl⟩ : ∃ a b c, x = [a, b, c] := by
    match x, h1.1 with
    | [a, b, c], _ => exact ⟨a, b, c, rfl⟩
  obtain ⟨A, rfl⟩ := list_of a (h1.2 a (by simp)).1
  obtain ⟨B, rfl⟩ := list_of b (h1.2 b (by simp)).1
  obtain ⟨C, rfl⟩ := list_of c (h1.2 c (by simp)).1
  refine Ev.rounds (g := fun q => steeplelaw19_PackvRing.f q L [A.map toS, B.map toS, C.map toS]) ?_
  unfold steeplelaw19_PackvRing.f
  have yes : Ev (fun q => steeplelaw19_PackvRing.j8 q) true := Ev.step (fun q => by rw [steeplelaw19_PackvRing.j8]) (Ev.bnd awake19_ev (Ev.ret _))
  refine Ev.both (fun _ => Ev.bnd awake19_ev (Ev.ret _)) fun hL3 => Ev.pos (by decide) (Ev.pos (by decide) (Ev.pos (by decide) ?_))
  obtain ⟨r, hr, hF⟩ := few19_ev L [A, B, C] (by simp)
  refine Ev.bnd hr ?_
  cases r with
  | false => exact Ev.pos rfl (Ev.bnd awake19_ev (Ev.ret _))
  | true =>
  have hA := hF rfl A (by simp)
  have hB := hF rfl B (by simp)
  have hC := hF rfl C (by simp)
  have e0 : Go.Proofs.Ytdpbogooceiaaaa.B.rdL [A.map toS, B.map toS, C.map toS] (0 : Int) = A.map toS := rfl
  have e1 : Go.Proofs.Ytdpbogooceiaaaa.B.rdL [A.map toS, B.map toS, C.map toS] (1 : Int) = B.map toS := rfl
  have e2 : Go.Proofs.Ytdpbogooceiaaaa.B.rdL [A.map toS, B.map toS, C.map toS] (2 : Int) = C.map toS := rfl
  rw [e0, e1, e2]
  refine Ev.neg (by decide) (Ev.pos (by decide) (Ev.pos (by decide) (Ev.pos (by decide) ?_)))
  refine Ev.bnd (TTimes_ev L A B (by omega) (by omega)) (Ev.bnd (TTimes_ev L B C (by omega) (by omega)) (Ev.bnd (TTimes_ev L A C (by omega) (by omega)) ?_))
  by_cases g1 : mayT L A B = 0
  rotate_left
  · rw [if_neg g1]; exact Ev.neg g1 yes
  by_cases g2 : mayT L B C = 0
  rotate_left
  · rw [if_pos g1, if_neg g2]; exact Ev.pos rfl (Ev.neg g2 yes)
  by_cases g3 : mayT L A C = 0
  rotate_left
  · rw [if_pos g1, if_pos g2, if_neg g3]; exact Ev.pos rfl (Ev.pos rfl (Ev.neg g3 yes))
  rw [if_pos g1, if_pos g2, if_pos g3]
  obtain ⟨l, rfl, hl, lA, lB, aA, aB⟩ := mayT_in g1
  obtain ⟨l', hl', _, _, lC, _, aC⟩ := mayT_in g2
  have : l' = l := by omega
  subst this
  rw [Int.toNat_natCast]
  have h128 := w128 hl
  generalize hN : 2 ^ l' = N at *
  have tl : ∀ f, (tabL N f).length = N := fun f => tabL_length N f
  have at' : ∀ {S T : List E}, AllS (l' : Int) S → AllS (l' : Int) T → AllS (l' : Int) (tabL N (timesX N S T)) := fun h1 h2 => tabL_all hl _ _ fun k _ => times_in hl h1 h2 N k
  have aadd : ∀ {S T : List E}, AllS (l' : Int) S → AllS (l' : Int) T → AllS (l' : Int) (tabL N (addX S T)) := fun h1 h2 => tabL_all hl _ _ fun k _ => inL_add (allS_getD h1 _) (allS_getD h2 _)
  have TT : ∀ {S T : List E}, S.length = N → T.length = N → AllS (l' : Int) S → AllS (l' : Int) T → Ev (fun k => packv_Times.f k (l' : Int) (S.map toS) (T.map toS)) ((tabL N (timesX N S T)).map toS, 0) := fun h1 h2 h3 h4 => by
    have := TTimes_ok hl (by rw [h1, hN]) (by rw [h2, hN]) h3 h4
    rwa [hN] at this
  have TA : ∀ {S T : List E}, S.length = N → T.length = N → AllS (l' : Int) S → AllS (l' : Int) T → Ev (fun k => packv_Add.f k (l' : Int) (S.map toS) (T.map toS)) ((tabL N (addX S T)).map toS, 0) := fun h1 h2 h3 h4 => by
    have := TAdd_ok hl (by rw [h1, hN]) (by rw [h2, hN]) h3 h4
    rwa [hN] at this
  have TU : ∀ {S : List E}, S.length = N → AllS (l' : Int) S → Ev (fun k => packv_Turned.f k (l' : Int) (S.map toS)) ((turnL S N).map toS, 0) := fun h1 h2 => by
    have := Turned_ok hl (by rw [h1, hN]) h2
    rwa [hN] at this
  have hone : leftO (l' : Int) 1 = pairX N 1 1 := by
    unfold leftO
    rw [if_pos (ofS_of hl (inL_one _)), Int.toNat_natCast, hN]
  have hO := POne_ev (l' : Int)
  rw [hone] at hO
  have aO : AllS (l' : Int) (pairX N 1 1) := fun x hx => by
    unfold pairX at hx
    obtain ⟨i, _, rfl⟩ := List.mem_map.1 hx
    exact ofS_of hl (pick_in _ (inL_one _))
  have lO : (pairX N (1 : E) 1).length = N := pairX_length N 1 1
  have aU : ∀ {S : List E}, S.length = N → AllS (l' : Int) (turnL S N) := fun {S} h1 => by
    unfold turnL
    refine tabL_all hl _ _ fun k _ => sumN_in _ _ fun i hi' => pick_in _ (bitE_in hl (by rw [hN, ← h1]; exact hi'))
  have lU : ∀ {S : List E}, (turnL S N).length = N := tabL_length _ _
  refine Ev.pos rfl (Ev.pos rfl (Ev.pos rfl ?_))
  refine Ev.bnd (TT lB lA aB aA) (Ev.bnd (TT (tl _) lC (at' aA aB) aC) (Ev.bnd (TT lA (tl _) aA (at' aB aC)) (Ev.bnd (TA lB lC aB aC) (Ev.bnd (TT lA (tl _) aA (aadd aB aC)) (Ev.bnd (TA (tl _) (tl _) (at' aA aB) (at' aA aC)) (Ev.bnd hO (Ev.bnd (TT lA lO aA aO) ?_)))))))
  refine Ev.pos rfl (Ev.pos rfl (Ev.pos rfl (Ev.pos rfl (Ev.pos rfl (Ev.pos rfl (Ev.pos rfl ?_))))))
  refine Ev.bnd (TU lA aA) (Ev.bnd (TU lB aB) (Ev.bnd (TU lU (aU lA)) (Ev.bnd (TU (tl _) (at' aA aB)) (Ev.bnd (TT lU lU (aU lA) (aU lB)) ?_))))
  refine Ev.pos rfl (Ev.pos rfl (Ev.pos rfl (Ev.pos rfl (Ev.pos rfl (Ev.bnd awake19_ev (Ev.pos rfl ?_))))))
  have hN6 : N ≤ 1000000 := by omega
  have q1 : tabL N (timesX N A B) = tabL N (timesX N B A) := tabL_congr _ fun k _ => times_comm N A B k
  have q2 : tabL N (timesX N (tabL N (timesX N A B)) C) = tabL N (timesX N A (tabL N (timesX N B C))) := tabL_congr _ fun k _ => by rw [← hN]; exact times_assoc hl A B C k
  have q3 : tabL N (timesX N A (tabL N (addX B C))) = tabL N (addX (tabL N (timesX N A B)) (tabL N (timesX N A C))) := tabL_congr _ fun k hk => by
    rw [times_add]
    unfold addX
    rw [tabL_getD _ _ k hk, tabL_getD _ _ k hk]
  have q4 : tabL N (timesX N A (pairX N 1 1)) = A := by
    have : tabL N (timesX N A (pairX N 1 1)) = tabL N (fun k => A.getD k 0) := tabL_congr _ fun k hk => by
      rw [← hN]
      exact times_one hl (by rw [lA, hN]) (by rw [hN]; exact hk)
    rw [this]
    conv => rhs; rw [← tabL_self A, lA]
  have hin : InN N A := fun x hx => by
    have := inL_of (aA x hx)
    unfold InL Q at this
    rwa [hN] at this
  have q5 : turnL (turnL A N) N = A := by
    have := (turn_twice A (by omega) N (by omega) hin).1
    rwa [lA] at this
  have q6 : turnL (tabL N (timesX N A B)) N = tabL N (timesX N (turnL A N) (turnL B N)) := by
    unfold turnL
    rw [tl]
    refine tabL_congr _ fun k hk => ?_
    have := turn_times hl (by rw [lA, hN]) (by rw [lB, hN]) aA aB (k := k) (by rw [hN]; exact hk)
    rw [hN] at this
    rw [this]; rfl
  have go : ∀ {X Y : List E} {f : Nat → Option Bool}, X = Y → X.length ≤ 1000000 → Ev f true → Ev (fun k => (steeplelaw19_alike.f k (X.map toS) (Y.map toS)).bind fun r => if r = true then f k else some false) true := by
    intro X Y f h1 h2 h3
    subst h1
    have := alike19_ev X X h2 h2
    rw [decide_eq_true rfl] at this
    exact Ev.bnd this (Ev.pos rfl h3)
  refine go q1 (by rw [tl]; exact hN6) (go q2 (by rw [tl]; exact hN6) (go q3 (by rw [tl]; exact hN6) (go q4 (by rw [tl]; exact hN6) (go q5 (by rw [lU]; exact hN6) ?_))))
  have := alike19_ev (turnL (tabL N (timesX N A B)) N) (tabL N (timesX N (turnL A N) (turnL B N))) (by rw [lU]; exact hN6) (by rw [tl]; exact hN6)
  rw [decide_eq_true q6] at this
  exact Ev.bnd this (Ev.ret _)
end Go.Proofs.Ytdpbogooceiaaaa.Pure
namespace Go.Proofs.Ytdpbogooceiaaaa.packvRing
open Go.Proofs.Ytdpbogooceiaaaa.V.B Go.ChangeShapes Go.WideShapes Go.ChangeAt Go.RowKit Go.Proofs.Ytdpbogooceiaaaa.B
set_option linter.unusedVariables false
set_option linter.unusedSimpArgs false
theorem own : ownKnob Try.prog.godebug = none := by kernel_rfl
theorem laidOut : laidOutB Try.prog = true := by kernel_rfl
def tab1 : Tab := ⟨[(3, .int .i64), (25, .slice (.st 1)), (36, .int .u64), (38, .st 1), (54, .arr 3 (.slice (.st 1)))], [], [(25, 16)], [], []⟩
theorem tab1_ok : tab1.chk E Try.prog = true := by kernel_rfl
theorem tie1 (calls : Nat → Option (Sig E.toTys)) : Tie (XR E) Try.prog (tab1.ctx calls) := tie_of zl_ok tab1_ok calls
theorem sts : chkSt E Try.prog tab1 tab1.tys = true := by kernel_rfl
set_option maxRecDepth 100000 in
theorem lifted (os : Os) (started : os.Started) (H : Type) (enc : TypeId × Value → H) :
    ReturnsInHanded {} Try.checked os 5 .any (Rows.packvRingSpec.pre6 enc Try.prog Try.f5 Rows.packvRingRow.domain false) (Rows.packvRingSpec.post enc Try.prog Try.f5 false true false false) := by
  refine returnsInHanded_of_change_sized (C := Try.checked) own started (by kernel_rfl) Try.func5
    (ChangeSpec.witness6 (enc := enc) (C := Try.checked) false ⟨#[], #[.int .i64 0, .agg #[.slice none 0 0, .slice none 0 0, .slice none 0 0]], []⟩ 8 (by kernel_rfl) (by kernel_rfl) (by kernel_rfl) (by kernel_rfl)) ?_
  intro W base args ds gs before hval0 hW hcnd hsz0 _
  have hval : ∀ (j : Nat) t v, Try.f5.params[j]? = some t → args[j]? = some v → Value.okWide Try.prog W .any base t v := hval0
  have hW' := hW
  obtain ⟨p, q, hA0, hV, rfl, hfz, hnd⟩ := hW
  have hA : DataW.TrodAll enc Try.prog W 0 (fun _ => true) true Try.f5.params.toList args.toList ds p := hA0
  rw [Try.params5] at hA hval
  obtain ⟨v0, vs0, d0, ds0, p0, q0, hargs, rfl, rfl, h0, r0⟩ := trodAll_cons hA
  obtain ⟨v1, vs1, d1, ds1, p1, q1, rfl, rfl, rfl, h1, r1⟩ := trodAll_cons r0
  obtain ⟨rfl, rfl, rfl⟩ := trodAll_nil r1
  obtain rfl : args = #[v0, v1] := by cases args; simp_all
  obtain ⟨rfl, rfl⟩ := trodVars_none hV
  have k0 := h0
  have lt0 : ∀ x ∈ p0, x.block < W.heap.size := by obtain ⟨m, hm⟩ := k0; exact DataW.trod_lt m _ _ _ hm
  obtain ⟨x0, cs0, e0, R0, g0⟩ := arg_ok tie1 sts (t := 3) (ty := .int .i64) rfl rfl (hval 0 3 v0 rfl rfl) h0
  have k1 := h1
  have lt1 : ∀ x ∈ p1, x.block < W.heap.size := by obtain ⟨m, hm⟩ := k1; exact DataW.trod_lt m _ _ _ hm
  obtain ⟨x1, cs1, e1, R1, g1⟩ := arg_ok tie1 sts (t := 54) (ty := .arr 3 (.slice (.st 1))) rfl rfl (hval 1 54 v1 rfl rfl) h1
  clear hA0 hval0 hsz0
  obtain ⟨k, hpure⟩ := Pure.PackvRing x0 x1 (g0 4) (g1 4)
  refine ((steeplelaw19_PackvRing.ok k).1 (x0, (x1, ())) true hpure W (fun b => b < W.heap.size) [v0, v1] (fun b hb => hb) ⟨_, _, cs0, rfl, R0, e0, ⟨_, _, cs1, rfl, R1, e1, rfl⟩⟩).mono fun e W2 hh => ?_
  obtain ⟨rfl, bel⟩ := ret_bool hh
  exact ⟨_, rfl, _, _, _, [], _, [], hW', trodAll_mk1 (shut_bool Try.underlying4 _), (trodAll_cons_mk (Below.trod laidOut (by kernel_rfl) (of_decide_eq_true (by kernel_rfl)) k0 bel lt0) (trodAll_cons_mk (Below.trod laidOut (by kernel_rfl) (of_decide_eq_true (by kernel_rfl)) k1 bel lt1) trodAll_mk0)), rfl, bel.frame _, fun h => by cases h⟩
theorem over : Rows.packvRingRow.holds Try.pinned (OpenSpec.ofChange Rows.packvRingSpec) :=
  OpenClaim.holds_of_wide 5 Try.f5 rfl rfl rfl rfl rfl rfl rfl ⟨rfl, rfl, rfl, rfl, rfl⟩ rfl rfl rfl rfl rfl (by kernel_rfl) Try.func5 (by kernel_rfl)
    (of_decide_eq_true (by kernel_rfl)) (by unfold Func.isWrapper; first | (rw [if_pos (by decide +kernel)]; kernel_rfl) | (rw [if_neg (by decide +kernel)]; exact ⟨rfl, rfl⟩))
    (fun os started H enc _ => lifted os started H enc)
end Go.Proofs.Ytdpbogooceiaaaa.packvRing
namespace Go.Proofs.Ytdpbogooceiaaaa
/-- The law, for every input. -/
theorem packvRing_holds : Rows.PackvRingSaid := packvRing.over
#print axioms packvRing_holds
end Go.Proofs.Ytdpbogooceiaaaa

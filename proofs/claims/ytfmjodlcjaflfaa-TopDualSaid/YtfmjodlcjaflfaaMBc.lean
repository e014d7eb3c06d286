/- Own text: merged by pack2.py. -/
import Derived.Deep.Slices
import Derived.OpenShut
import Derived.ProofKit
import Derived.WideShapes
import Derived.Test.YtfmjodlcjaflfaaMBa
import Derived.Test.YtfmjodlcjaflfaaMBb
set_option linter.unusedSimpArgs false
set_option linter.unusedVariables false
namespace Go.Proofs.Ytfmjodlcjaflfaa.V.B.Tw
set_option linter.unusedVariables false
set_option linter.unusedSimpArgs false

/-- Level n: a bit, or two halves: the higher one and the lower one. -/
def T : Nat → Type
  | 0 => Bool
  | n + 1 => T n × T n
def zero : (n : Nat) → T n
  | 0 => false
  | n + 1 => (zero n, zero n)
def one : (n : Nat) → T n
  | 0 => true
  | n + 1 => (zero n, one n)
/-- The generator. -/
def gen : (n : Nat) → T n
  | 0 => true
  | n + 1 => (one n, zero n)
def add : {n : Nat} → T n → T n → T n
  | 0, a, b => Bool.xor a b
  | _ + 1, a, b => (add a.1 b.1, add a.2 b.2)
def mul : {n : Nat} → T n → T n → T n
  | 0, a, b => Bool.and a b
  | n + 1, a, b => (add (add (mul a.1 b.2) (mul a.2 b.1)) (mul (gen n) (mul a.1 b.1)), add (mul a.2 b.2) (mul a.1 b.1))
instance {n : Nat} : Add (T n) := ⟨add⟩
instance {n : Nat} : Mul (T n) := ⟨mul⟩
instance {n : Nat} : Zero (T n) := ⟨zero n⟩
instance {n : Nat} : One (T n) := ⟨one n⟩
instance : {n : Nat} → DecidableEq (T n)
  | 0 => inferInstanceAs (DecidableEq Bool)
  | n + 1 => let _ : DecidableEq (T n) := instDecidableEqT; inferInstanceAs (DecidableEq (T n × T n))
theorem add_fst {n : Nat} (a b : T (n + 1)) : (a + b).1 = a.1 + b.1 := rfl
theorem add_snd {n : Nat} (a b : T (n + 1)) : (a + b).2 = a.2 + b.2 := rfl
theorem mul_fst {n : Nat} (a b : T (n + 1)) : (a * b).1 = (a.1 * b.2 + a.2 * b.1) + gen n * (a.1 * b.1) := rfl
theorem mul_snd {n : Nat} (a b : T (n + 1)) : (a * b).2 = a.2 * b.2 + a.1 * b.1 := rfl
theorem zero_fst {n : Nat} : (0 : T (n + 1)).1 = 0 := rfl
theorem zero_snd {n : Nat} : (0 : T (n + 1)).2 = 0 := rfl
theorem one_fst {n : Nat} : (1 : T (n + 1)).1 = 0 := rfl
theorem one_snd {n : Nat} : (1 : T (n + 1)).2 = 1 := rfl
theorem gen_fst {n : Nat} : (gen (n + 1)).1 = 1 := rfl
theorem gen_snd {n : Nat} : (gen (n + 1)).2 = 0 := rfl
theorem gen_zero : gen 0 = 1 := rfl
/-- The element of two halves. -/
def mk {n : Nat} (a b : T n) : T (n + 1) := (a, b)
theorem mk_fst {n : Nat} (a b : T n) : (mk a b).1 = a := rfl
theorem mk_snd {n : Nat} (a b : T n) : (mk a b).2 = b := rfl
theorem ext {n : Nat} {a b : T (n + 1)} (h1 : a.1 = b.1) (h2 : a.2 = b.2) : a = b := Prod.ext h1 h2

theorem add_comm : {n : Nat} → (a b : T n) → a + b = b + a
  | 0, a, b => Bool.xor_comm a b
  | n + 1, a, b => ext (add_comm a.1 b.1) (add_comm a.2 b.2)
theorem add_assoc : {n : Nat} → (a b c : T n) → a + b + c = a + (b + c)
  | 0, a, b, c => Bool.xor_assoc a b c
  | n + 1, a, b, c => ext (add_assoc a.1 b.1 c.1) (add_assoc a.2 b.2 c.2)
theorem zero_add : {n : Nat} → (a : T n) → 0 + a = a
  | 0, a => Bool.false_xor a
  | n + 1, a => ext (zero_add a.1) (zero_add a.2)
theorem add_self : {n : Nat} → (a : T n) → a + a = 0
  | 0, a => Bool.xor_self a
  | n + 1, a => ext (add_self a.1) (add_self a.2)
theorem add_zero {n : Nat} (a : T n) : a + 0 = a := by rw [add_comm, zero_add]
theorem add_left_comm {n : Nat} (a b c : T n) : a + (b + c) = b + (a + c) := by rw [← add_assoc, add_comm a b, add_assoc]
theorem add_add_self {n : Nat} (a b : T n) : a + (a + b) = b := by rw [← add_assoc, add_self, zero_add]
theorem add_cancel_left {n : Nat} {a b c : T n} (h : a + b = a + c) : b = c := by
  have := congrArg (a + ·) h
  simpa only [add_add_self] using this
theorem add_eq_zero {n : Nat} {a b : T n} (h : a + b = 0) : a = b := by
  have := congrArg (· + b) h
  simp only [add_assoc, add_self, add_zero, zero_add] at this
  exact this
theorem eq_add_of {n : Nat} {a b c : T n} (h : a + b = c) : a = c + b := by rw [← h, add_assoc, add_self, add_zero]

/-- The laws of products, all at once. -/
structure Laws (n : Nat) : Prop where
  comm : ∀ a b : T n, a * b = b * a
  zero_mul : ∀ a : T n, 0 * a = 0
  one_mul : ∀ a : T n, 1 * a = a
  mul_add : ∀ a b c : T n, a * (b + c) = a * b + a * c
  assoc : ∀ a b c : T n, a * b * c = a * (b * c)
theorem laws : (n : Nat) → Laws n
  | 0 => ⟨Bool.and_comm, Bool.false_and, Bool.true_and, by intro a b c; cases a <;> cases b <;> cases c <;> rfl, Bool.and_assoc⟩
  | n + 1 => by
    obtain ⟨comm, zmul, omul, madd, massoc⟩ := laws n
    have addm : ∀ a b c : T n, (a + b) * c = a * c + b * c := fun a b c => by rw [comm, madd, comm c a, comm c b]
    have mulz : ∀ a : T n, a * 0 = 0 := fun a => by rw [comm, zmul]
    have mulo : ∀ a : T n, a * 1 = a := fun a => by rw [comm, omul]
    have lcomm : ∀ a b c : T n, a * (b * c) = b * (a * c) := fun a b c => by rw [← massoc, comm a b, massoc]
    refine ⟨fun a b => ext ?_ ?_, fun a => ext ?_ ?_, fun a => ext ?_ ?_, fun a b c => ext ?_ ?_, fun a b c => ext ?_ ?_⟩
    · simp only [mul_fst]; rw [comm a.1 b.2, comm a.2 b.1, comm a.1 b.1, add_comm (b.2 * a.1)]
    · simp only [mul_snd]; rw [comm a.2 b.2, comm a.1 b.1]
    · simp only [mul_fst, zero_fst, zero_snd, zmul, mulz, add_zero]
    · simp only [mul_snd, zero_fst, zero_snd, zmul, mulz, add_zero]
    · simp only [mul_fst, one_fst, one_snd, zmul, mulz, omul, add_zero, zero_add]
    · simp only [mul_snd, one_fst, one_snd, zmul, mulz, omul, add_zero, zero_add]
    · simp only [mul_fst, add_fst, add_snd, madd, addm, add_assoc, add_left_comm, add_comm]
    · simp only [mul_snd, add_fst, add_snd, madd, addm, add_assoc, add_left_comm, add_comm]
    · simp only [mul_fst, mul_snd, madd, addm, massoc, lcomm, comm, add_assoc, add_left_comm, add_comm]
    · simp only [mul_fst, mul_snd, madd, addm, massoc, lcomm, comm, add_assoc, add_left_comm, add_comm]
section
variable {n : Nat} (a b c d : T n)
theorem mul_comm : a * b = b * a := (laws n).comm a b
theorem mul_assoc : a * b * c = a * (b * c) := (laws n).assoc a b c
theorem mul_left_comm : a * (b * c) = b * (a * c) := by rw [← mul_assoc, mul_comm a b, mul_assoc]
theorem zero_mul : 0 * a = 0 := (laws n).zero_mul a
theorem mul_zero : a * 0 = 0 := by rw [mul_comm, zero_mul]
theorem one_mul : 1 * a = a := (laws n).one_mul a
theorem mul_one : a * 1 = a := by rw [mul_comm, one_mul]
theorem mul_add : a * (b + c) = a * b + a * c := (laws n).mul_add a b c
theorem add_mul : (a + b) * c = a * c + b * c := by rw [mul_comm, mul_add, mul_comm c a, mul_comm c b]
theorem add_sq : (a + b) * (a + b) = a * a + b * b := by
  rw [mul_add, add_mul, add_mul, mul_comm b a, add_assoc, ← add_assoc (a * b), add_self, zero_add]
end
end Go.Proofs.Ytfmjodlcjaflfaa.V.B.Tw
namespace Go.Proofs.Ytfmjodlcjaflfaa.V.B.Tw
set_option linter.unusedVariables false
set_option linter.unusedSimpArgs false
/-- How many words of bits an element of a level is: 2 to the power 2^n. -/
def Q (n : Nat) : Nat := 2 ^ 2 ^ n
theorem Q_pos (n : Nat) : 0 < Q n := Nat.two_pow_pos _
theorem Q_succ (n : Nat) : Q (n + 1) = Q n * Q n := by unfold Q; rw [← Nat.pow_add, Nat.pow_succ 2 n, Nat.mul_two]
theorem Q_le_succ (n : Nat) : Q n ≤ Q (n + 1) := by rw [Q_succ]; exact Nat.le_mul_of_pos_left _ (Q_pos n)
theorem Q_mono {m n : Nat} (h : m ≤ n) : Q m ≤ Q n := Nat.pow_le_pow_right (by decide) (Nat.pow_le_pow_right (by decide) h)
theorem Q_six : Q 6 = 2 ^ 64 := rfl
theorem Q_seven : Q 7 = 2 ^ 128 := rfl
def val : {n : Nat} → T n → Nat
  | 0, a => Bool.toNat a
  | n + 1, a => val a.1 * Q n + val a.2
def of : (n : Nat) → Nat → T n
  | 0, x => x % 2 == 1
  | n + 1, x => mk (of n (x / Q n)) (of n (x % Q n))
theorem val_zero_lvl (a : T 0) : val a = Bool.toNat a := rfl
theorem val_succ {n : Nat} (a : T (n + 1)) : val a = val a.1 * Q n + val a.2 := rfl
theorem of_succ (n x : Nat) : of (n + 1) x = mk (of n (x / Q n)) (of n (x % Q n)) := rfl
theorem val_lt : {n : Nat} → (a : T n) → val a < Q n
  | 0, a => by cases a <;> decide
  | n + 1, a => by
    rw [val_succ, Q_succ]
    have h1 := val_lt a.1
    have h2 := val_lt a.2
    have h3 : val a.1 * Q n + Q n ≤ Q n * Q n := by
      have := Nat.mul_le_mul_right (Q n) h1
      rw [Nat.succ_mul] at this; exact this
    omega
theorem val_div {n : Nat} (a : T (n + 1)) : val a / Q n = val a.1 := by
  rw [val_succ, Nat.mul_comm, Nat.mul_add_div (Q_pos n), Nat.div_eq_of_lt (val_lt a.2), Nat.add_zero]
theorem val_mod {n : Nat} (a : T (n + 1)) : val a % Q n = val a.2 := by
  rw [val_succ, Nat.mul_comm, Nat.mul_add_mod, Nat.mod_eq_of_lt (val_lt a.2)]
theorem of_val : {n : Nat} → (a : T n) → of n (val a) = a
  | 0, a => by cases a <;> rfl
  | n + 1, a => by rw [of_succ, val_div, val_mod, of_val a.1, of_val a.2]; rfl
theorem val_of : (n : Nat) → (x : Nat) → x < Q n → val (of n x) = x
  | 0, x, h => by
    have h' : x < 2 := h
    have : x = 0 ∨ x = 1 := by omega
    rcases this with rfl | rfl <;> rfl
  | n + 1, x, h => by
    rw [of_succ, val_succ, mk_fst, mk_snd]
    rw [Q_succ] at h
    rw [val_of n _ (Nat.div_lt_of_lt_mul h), val_of n _ (Nat.mod_lt _ (Q_pos n)), Nat.mul_comm]
    exact Nat.div_add_mod x (Q n)
theorem val_inj {n : Nat} {a b : T n} (h : val a = val b) : a = b := by rw [← of_val a, h, of_val]
theorem val_zero : (n : Nat) → val (0 : T n) = 0
  | 0 => rfl
  | n + 1 => by rw [val_succ, zero_fst, zero_snd, val_zero n, Nat.zero_mul]
theorem val_one : (n : Nat) → val (1 : T n) = 1
  | 0 => rfl
  | n + 1 => by rw [val_succ, one_fst, one_snd, val_zero n, val_one n, Nat.zero_mul]
theorem of_zero (n : Nat) : of n 0 = 0 := by rw [← val_zero n, of_val]
theorem of_one (n : Nat) : of n 1 = 1 := by rw [← val_one n, of_val]
theorem val_eq_zero {n : Nat} {a : T n} : val a = 0 ↔ a = 0 := ⟨fun h => val_inj (h.trans (val_zero n).symm), fun h => by rw [h, val_zero]⟩
theorem xor_join {n a b c d : Nat} (hb : b < Q n) (hd : d < Q n) : (a * Q n + b) ^^^ (c * Q n + d) = (a ^^^ c) * Q n + (b ^^^ d) := by
  have h1 : ((a * Q n + b) ^^^ (c * Q n + d)) / Q n = a ^^^ c := by
    unfold Q at *
    rw [Nat.xor_div_two_pow, Nat.mul_comm a, Nat.mul_comm c, Nat.mul_add_div (Nat.two_pow_pos _), Nat.mul_add_div (Nat.two_pow_pos _), Nat.div_eq_of_lt hb, Nat.div_eq_of_lt hd]; rfl
  have h2 : ((a * Q n + b) ^^^ (c * Q n + d)) % Q n = b ^^^ d := by
    unfold Q at *
    rw [Nat.xor_mod_two_pow, Nat.mul_comm a, Nat.mul_comm c, Nat.mul_add_mod, Nat.mul_add_mod, Nat.mod_eq_of_lt hb, Nat.mod_eq_of_lt hd]
  have := Nat.div_add_mod ((a * Q n + b) ^^^ (c * Q n + d)) (Q n)
  rw [h1, h2, Nat.mul_comm] at this
  exact this.symm
theorem val_add : {n : Nat} → (a b : T n) → val (a + b) = val a ^^^ val b
  | 0, a, b => by cases a <;> cases b <;> rfl
  | n + 1, a, b => by
    rw [val_succ, val_succ, val_succ, add_fst, add_snd, val_add a.1 b.1, val_add a.2 b.2, xor_join (val_lt _) (val_lt _)]
theorem xor_lt {n x y : Nat} (hx : x < Q n) (hy : y < Q n) : x ^^^ y < Q n := Nat.xor_lt_two_pow hx hy
theorem of_xor {n x y : Nat} (hx : x < Q n) (hy : y < Q n) : of n (x ^^^ y) = of n x + of n y :=
  val_inj (by rw [val_of _ _ (xor_lt hx hy), val_add, val_of _ _ hx, val_of _ _ hy])
/-- A number of a lower level: the higher half is 0. -/
theorem of_low {n x : Nat} (h : x < Q n) : of (n + 1) x = mk 0 (of n x) := by
  rw [of_succ, Nat.div_eq_of_lt h, Nat.mod_eq_of_lt h, of_zero]
/-- One level up. -/
def up {n : Nat} (a : T n) : T (n + 1) := mk 0 a
theorem up_fst {n : Nat} (a : T n) : (up a).1 = 0 := rfl
theorem up_snd {n : Nat} (a : T n) : (up a).2 = a := rfl
theorem val_up {n : Nat} (a : T n) : val (up a) = val a := by rw [val_succ, up_fst, up_snd, val_zero, Nat.zero_mul, Nat.zero_add]
theorem up_add {n : Nat} (a b : T n) : up (a + b) = up a + up b := ext (by rw [add_fst, up_fst, up_fst, up_fst, add_zero]) rfl
theorem up_mul {n : Nat} (a b : T n) : up (a * b) = up a * up b :=
  ext (by simp only [mul_fst, up_fst, up_snd, zero_mul, mul_zero, add_zero]) (by simp only [mul_snd, up_fst, up_snd, zero_mul, add_zero])
theorem up_mul_any {n : Nat} (a : T n) (b : T (n + 1)) : up a * b = mk (a * b.1) (a * b.2) :=
  ext (by simp only [mul_fst, up_fst, up_snd, zero_mul, mul_zero, add_zero, zero_add, mk_fst]) (by simp only [mul_snd, up_fst, up_snd, zero_mul, add_zero, mk_snd])
theorem up_zero (n : Nat) : up (0 : T n) = 0 := rfl
theorem up_one (n : Nat) : up (1 : T n) = 1 := rfl
theorem up_inj {n : Nat} {a b : T n} (h : up a = up b) : a = b := congrArg (fun x : T (n + 1) => x.2) h
/-- Many levels up. -/
def ups {n : Nat} : (d : Nat) → T n → T (n + d)
  | 0, a => a
  | d + 1, a => up (ups d a)
theorem ups_add {n : Nat} (a b : T n) : (d : Nat) → ups d (a + b) = ups d a + ups d b
  | 0 => rfl
  | d + 1 => by show up (ups d (a + b)) = _; rw [ups_add a b d, up_add]; rfl
theorem ups_mul {n : Nat} (a b : T n) : (d : Nat) → ups d (a * b) = ups d a * ups d b
  | 0 => rfl
  | d + 1 => by show up (ups d (a * b)) = _; rw [ups_mul a b d, up_mul]; rfl
theorem val_ups {n : Nat} (a : T n) : (d : Nat) → val (ups d a) = val a
  | 0 => rfl
  | d + 1 => by show val (up (ups d a)) = _; rw [val_up, val_ups a d]
theorem ups_zero {n : Nat} (d : Nat) : ups d (0 : T n) = 0 := val_inj (by rw [val_ups, val_zero, val_zero])
theorem ups_one {n : Nat} (d : Nat) : ups d (1 : T n) = 1 := val_inj (by rw [val_ups, val_one, val_one])
theorem ups_of {n d x : Nat} (h : x < Q n) : ups d (of n x) = of (n + d) x := val_inj (by rw [val_ups, val_of _ _ h, val_of _ _ (Nat.lt_of_lt_of_le h (Q_mono (Nat.le_add_right _ _)))])
/-- Products of numbers of a lower level are of it. -/
theorem val_mul_low {n d x y : Nat} (hx : x < Q n) (hy : y < Q n) : val (of (n + d) x * of (n + d) y) = val (of n x * of n y) := by
  rw [← ups_of hx, ← ups_of hy, ← ups_mul, val_ups]
theorem val_mul_level {l m x y : Nat} (h : l ≤ m) (hx : x < Q l) (hy : y < Q l) : val (of m x * of m y) = val (of l x * of l y) := by
  obtain ⟨d, rfl⟩ := Nat.le.dest h
  exact val_mul_low hx hy
theorem val_mul_lt {l m x y : Nat} (h : l ≤ m) (hx : x < Q l) (hy : y < Q l) : val (of m x * of m y) < Q l := by
  rw [val_mul_level h hx hy]; exact val_lt _
end Go.Proofs.Ytfmjodlcjaflfaa.V.B.Tw
namespace Go.Proofs.Ytfmjodlcjaflfaa.V.B.Tw
set_option linter.unusedVariables false
set_option linter.unusedSimpArgs false
/-- The trace. -/
def tr : {n : Nat} → T n → Bool
  | 0, a => a
  | n + 1, a => tr (a.1 * gen n)
theorem tr_add : {n : Nat} → (a b : T n) → tr (a + b) = (tr a ^^ tr b)
  | 0, a, b => rfl
  | n + 1, a, b => by
    show tr ((a + b).1 * gen n) = (tr (a.1 * gen n) ^^ tr (b.1 * gen n))
    rw [add_fst, add_mul, tr_add]
theorem tr_sq : {n : Nat} → (a : T n) → tr (a * a) = tr a
  | 0, a => Bool.and_self a
  | n + 1, a => by
    show tr ((a * a).1 * gen n) = tr (a.1 * gen n)
    have h : (a * a).1 * gen n = (a.1 * gen n) * (a.1 * gen n) := by
      rw [mul_fst, mul_comm a.2 a.1, add_self, zero_add]
      simp only [mul_assoc, mul_comm, mul_left_comm]
    rw [h, tr_sq]
theorem tr_gen : (n : Nat) → tr (gen n) = true
  | 0 => rfl
  | n + 1 => by
    show tr ((gen (n + 1)).1 * gen n) = true
    rw [gen_fst, one_mul, tr_gen n]
/-- The generator has an inverse, and its trace is 1. -/
theorem gen_inv : (n : Nat) → ∃ h : T n, gen n * h = 1 ∧ tr h = true
  | 0 => ⟨true, rfl, rfl⟩
  | n + 1 => by
    refine ⟨mk 1 (gen n), ext ?_ ?_, ?_⟩
    · rw [mul_fst, gen_fst, gen_snd, mk_fst, mk_snd, one_fst, one_mul, zero_mul, add_zero, one_mul, mul_one, add_self]
    · rw [mul_snd, gen_fst, gen_snd, mk_fst, mk_snd, one_snd, one_mul, zero_mul, zero_add]
    · show tr ((1 : T n) * gen n) = true
      rw [one_mul, tr_gen n]
theorem one_ne : (n : Nat) → (1 : T n) ≠ 0
  | n => fun h => by
    have := val_one n
    rw [h, val_zero] at this
    cases this
/-- There is no t with t t + t g = 1. -/
theorem no_root {n : Nat} (t : T n) : t * t + t * gen n ≠ 1 := by
  intro e
  obtain ⟨h, h1, h2⟩ := gen_inv n
  have e1 : (t * h) * (t * h) + t * h = h * h := by
    have a1 : t * h = t * gen n * (h * h) := by
      rw [mul_assoc t, ← mul_assoc (gen n), h1, one_mul]
    have a2 : (t * h) * (t * h) = t * t * (h * h) := by
      simp only [mul_assoc, mul_comm, mul_left_comm]
    rw [a2]
    conv => lhs; rhs; rw [a1]
    rw [← add_mul, e, one_mul]
  have e2 := congrArg tr e1
  rw [tr_add, tr_sq, tr_sq, h2, Bool.xor_self] at e2
  cases e2
/-- What is not 0 has an inverse. -/
theorem has_inv : (n : Nat) → ∀ a : T n, a ≠ 0 → ∃ b, a * b = 1
  | 0, a, h => ⟨true, by cases a with
    | true => rfl
    | false => exact absurd rfl h⟩
  | n + 1, z, hz => by
    have ih := has_inv n
    have hN : z.2 * (z.2 + z.1 * gen n) + z.1 * z.1 ≠ 0 := by
      intro e
      by_cases ha : z.1 = 0
      · rw [ha, zero_mul, zero_mul, add_zero, add_zero] at e
        have hb : z.2 ≠ 0 := fun hb => hz (ext ha hb)
        obtain ⟨b, hb1⟩ := ih _ hb
        have e2 : z.2 * z.2 * (b * b) = 1 := by
          have : z.2 * z.2 * (b * b) = (z.2 * b) * (z.2 * b) := by simp only [mul_assoc, mul_comm, mul_left_comm]
          rw [this, hb1, one_mul]
        rw [e, zero_mul] at e2
        exact one_ne n e2.symm
      · obtain ⟨c, hc⟩ := ih _ ha
        have e2 : (z.2 * (z.2 + z.1 * gen n) + z.1 * z.1) * (c * c) = (z.2 * c) * (z.2 * c) + (z.2 * c) * gen n + 1 := by
          have a1 : z.1 * z.1 * (c * c) = 1 := by
            have : z.1 * z.1 * (c * c) = (z.1 * c) * (z.1 * c) := by simp only [mul_assoc, mul_comm, mul_left_comm]
            rw [this, hc, one_mul]
          have a2 : z.2 * (z.1 * gen n) * (c * c) = (z.2 * c) * gen n := by
            have : z.2 * (z.1 * gen n) * (c * c) = (z.1 * c) * ((z.2 * c) * gen n) := by simp only [mul_assoc, mul_comm, mul_left_comm]
            rw [this, hc, one_mul]
          have a3 : z.2 * z.2 * (c * c) = (z.2 * c) * (z.2 * c) := by simp only [mul_assoc, mul_comm, mul_left_comm]
          rw [add_mul, mul_add, add_mul, a1, a2, a3]
        rw [e, zero_mul] at e2
        exact no_root (z.2 * c) (add_eq_zero e2.symm)
    obtain ⟨m, hm⟩ := ih _ hN
    have hz2 : z * mk z.1 (z.2 + z.1 * gen n) = up (z.2 * (z.2 + z.1 * gen n) + z.1 * z.1) := by
      refine ext ?_ ?_
      · rw [mul_fst, mk_fst, mk_snd, up_fst]
        simp only [mul_add, mul_comm, mul_left_comm, add_comm, add_left_comm, add_assoc, add_self, add_add_self, add_zero, zero_add]
        rw [mul_assoc, add_self]
      · rw [mul_snd, mk_fst, mk_snd, up_snd]
    exact ⟨mk z.1 (z.2 + z.1 * gen n) * up m, by rw [← mul_assoc, hz2, ← up_mul, hm, up_one]⟩
theorem mul_eq_zero {n : Nat} {a b : T n} (h : a * b = 0) : a = 0 ∨ b = 0 := by
  by_cases ha : a = 0
  · exact .inl ha
  · obtain ⟨c, hc⟩ := has_inv n a ha
    right
    have : c * (a * b) = b := by rw [← mul_assoc, mul_comm c a, hc, one_mul]
    rw [← this, h, mul_zero]
end Go.Proofs.Ytfmjodlcjaflfaa.V.B.Tw
namespace Go.Proofs.Ytfmjodlcjaflfaa.V.B.Tw
set_option linter.unusedVariables false
set_option linter.unusedSimpArgs false
/-- The other root, and the norm. -/
def othr {n : Nat} (z : T (n + 1)) : T n := z.2 + gen n * z.1
def nrm {n : Nat} (z : T (n + 1)) : T n := z.2 * othr z + z.1 * z.1
def invT : {n : Nat} → T n → T n
  | 0, a => a
  | n + 1, z => mk (z.1 * invT (nrm z)) (othr z * invT (nrm z))
theorem conj_mul {n : Nat} (z : T (n + 1)) : z * mk z.1 (othr z) = up (nrm z) := by
  unfold nrm othr
  refine ext ?_ ?_
  · rw [mul_fst, mk_fst, mk_snd, up_fst]
    simp only [mul_add, mul_comm, mul_left_comm, add_comm, add_left_comm, add_assoc, add_self, add_add_self, add_zero, zero_add]
    rw [← mul_assoc z.1 z.1, add_self]
  · rw [mul_snd, mk_fst, mk_snd, up_snd]
theorem nrm_ne {n : Nat} {z : T (n + 1)} (hz : z ≠ 0) : nrm z ≠ 0 := by
  intro e
  obtain ⟨b, hb⟩ := has_inv (n + 1) z hz
  have h := conj_mul z
  rw [e] at h
  have h1 : mk z.1 (othr z) = 0 := by
    have : b * (z * mk z.1 (othr z)) = mk z.1 (othr z) := by rw [← mul_assoc, mul_comm b z, hb, one_mul]
    rw [← this, h, up_zero, mul_zero]
  have h2 : z.1 = 0 := congrArg (fun x : T (n + 1) => x.1) h1
  have h3 : othr z = 0 := congrArg (fun x : T (n + 1) => x.2) h1
  unfold othr at h3
  rw [h2, mul_zero, add_zero] at h3
  exact hz (ext h2 h3)
theorem invT_zero : (n : Nat) → invT (0 : T n) = 0
  | 0 => rfl
  | n + 1 => by
    have h : nrm (0 : T (n + 1)) = 0 := by
      unfold nrm othr
      rw [zero_fst, zero_snd, zero_mul, zero_mul, add_zero]
    show mk ((0 : T (n + 1)).1 * invT (nrm (0 : T (n + 1)))) (othr (0 : T (n + 1)) * invT (nrm (0 : T (n + 1)))) = 0
    rw [h, invT_zero n, mul_zero, mul_zero]; rfl
theorem mul_invT : {n : Nat} → {a : T n} → a ≠ 0 → a * invT a = 1
  | 0, a, h => by
    cases a with
    | true => rfl
    | false => exact absurd rfl h
  | n + 1, z, h => by
    have h1 := mul_invT (nrm_ne h)
    have h2 : invT z = mk z.1 (othr z) * up (invT (nrm z)) := by
      rw [mul_comm, up_mul_any]
      show mk (z.1 * invT (nrm z)) (othr z * invT (nrm z)) = _
      rw [mk_fst, mk_snd, mul_comm z.1, mul_comm (othr z)]
    rw [h2, ← mul_assoc, conj_mul, ← up_mul, h1, up_one]
theorem inv_uniq {n : Nat} {a b c : T n} (h : a * b = 1) (k : a * c = 1) : b = c := by
  have : c * (a * b) = b := by rw [← mul_assoc, mul_comm c a, k, one_mul]
  rw [← this, h, mul_one]
theorem invT_of {n : Nat} {a b : T n} (h : a * b = 1) : invT a = b := by
  refine inv_uniq (mul_invT ?_) h
  rintro rfl
  rw [zero_mul] at h
  exact one_ne n h.symm
theorem ups_inj {n : Nat} {a b : T n} : (d : Nat) → ups d a = ups d b → a = b
  | 0, h => h
  | d + 1, h => ups_inj d (up_inj h)
theorem invT_ups {n : Nat} (a : T n) (d : Nat) : invT (ups d a) = ups d (invT a) := by
  by_cases h : a = 0
  · subst h; rw [ups_zero, invT_zero, invT_zero, ups_zero]
  · apply invT_of
    rw [← ups_mul, mul_invT h, ups_one]
theorem invT_ne {n : Nat} {a : T n} (h : a ≠ 0) : invT a ≠ 0 := fun e => by
  have := mul_invT h
  rw [e, mul_zero] at this
  exact one_ne n this.symm
theorem invT_mul {n : Nat} {a : T n} (h : a ≠ 0) : invT a * a = 1 := by rw [mul_comm, mul_invT h]
/-- Inverses stay in their level. -/
theorem val_inv_lt {l m : Nat} (h : l ≤ m) {x : T m} (hx : val x < Q l) : val (invT x) < Q l := by
  obtain ⟨d, rfl⟩ := Nat.le.dest h
  have e : x = ups d (of l (val x)) := by
    apply val_inj
    rw [val_ups, val_of _ _ hx]
  rw [e, invT_ups, val_ups]
  exact val_lt _
/-! ### Squares, again and again -/
def sqn {n : Nat} : Nat → T n → T n
  | 0, x => x
  | k + 1, x => sqn k x * sqn k x
section
variable {n : Nat}
theorem sqn_add (a b : T n) : ∀ k, sqn k (a + b) = sqn k a + sqn k b
  | 0 => rfl
  | k + 1 => by rw [sqn, sqn_add a b k, add_sq]; rfl
theorem sqn_mul (a b : T n) : ∀ k, sqn k (a * b) = sqn k a * sqn k b
  | 0 => rfl
  | k + 1 => by
    rw [sqn, sqn_mul a b k, sqn, sqn]
    simp only [mul_assoc, mul_left_comm]
theorem sqn_one : ∀ k, sqn k (1 : T n) = 1
  | 0 => rfl
  | k + 1 => by rw [sqn, sqn_one k, one_mul]
theorem sqn_zero : ∀ k, sqn k (0 : T n) = 0
  | 0 => rfl
  | k + 1 => by rw [sqn, sqn_zero k, zero_mul]
theorem sqn_sqn (x : T n) (j : Nat) : ∀ k, sqn k (sqn j x) = sqn (j + k) x
  | 0 => rfl
  | k + 1 => by rw [sqn, sqn_sqn x j k]; rfl
theorem sqn_up (x : T n) : ∀ k, sqn k (up x) = up (sqn k x)
  | 0 => rfl
  | k + 1 => by rw [sqn, sqn_up x k, ← up_mul]; rfl
theorem sqn_ups (x : T n) (d : Nat) : ∀ k, sqn k (ups d x) = ups d (sqn k x)
  | 0 => rfl
  | k + 1 => by rw [sqn, sqn_ups x d k, ← ups_mul]; rfl
theorem sqn_ne {x : T n} (h : x ≠ 0) : ∀ k, sqn k x ≠ 0
  | 0 => h
  | k + 1 => fun e => by
    rcases mul_eq_zero e with g | g
    · exact sqn_ne h k g
    · exact sqn_ne h k g
end
/-- Each level's elements are the roots of x^(2^(2^n)) = x. -/
theorem fermat : {n : Nat} → (x : T n) → sqn (2 ^ n) x = x
  | 0, x => by
    show x * x = x
    exact Bool.and_self x
  | n + 1, z => by
    have ih := fun a : T n => fermat a
    -- the generator's root
    have hF : ∀ a : T n, sqn (2 ^ n) (up a) = up a := fun a => by rw [sqn_up, ih]
    have hX : sqn (2 ^ n) (gen (n + 1)) = gen (n + 1) ∨ sqn (2 ^ n) (gen (n + 1)) = gen (n + 1) + up (gen n) := by
      have h0 : gen (n + 1) * gen (n + 1) = up (gen n) * gen (n + 1) + 1 := by
        refine ext ?_ ?_
        · rw [mul_fst, add_fst, up_mul_any, mk_fst, gen_fst, gen_snd, one_fst, mul_zero, zero_mul, add_zero, zero_add, one_mul, add_zero]
        · rw [mul_snd, add_snd, up_mul_any, mk_snd, gen_fst, gen_snd, one_snd, mul_zero, mul_zero, zero_add, zero_add, one_mul]
      have h1 := congrArg (sqn (2 ^ n)) h0
      rw [sqn_mul, sqn_add, sqn_mul, hF, sqn_one] at h1
      generalize sqn (2 ^ n) (gen (n + 1)) = y at h1 ⊢
      generalize gen (n + 1) = x at h0 h1 ⊢
      have h2 : (y + x) * (y + x + up (gen n)) = 0 := by
        have e : (y + x) * (y + x + up (gen n)) = (y * y + up (gen n) * y) + (x * x + up (gen n) * x) := by
          simp only [mul_add, add_mul, mul_comm, add_assoc, add_left_comm, add_comm, add_self, add_add_self, add_zero, zero_add]
        rw [e, h1, h0]
        simp only [add_assoc, add_left_comm, add_comm, add_self, add_add_self, add_zero, zero_add]
      rcases mul_eq_zero h2 with g | g
      · exact .inl (add_eq_zero g)
      · right
        rw [add_assoc] at g
        exact add_eq_zero g
    have hXX : sqn (2 ^ n) (sqn (2 ^ n) (gen (n + 1))) = gen (n + 1) := by
      rcases hX with h | h
      · rw [h, h]
      · rw [h, sqn_add, hF, h, add_assoc, add_self, add_zero]
    have hz : z = up z.1 * gen (n + 1) + up z.2 := by
      rw [up_mul_any]
      refine ext ?_ ?_
      · rw [add_fst, mk_fst, gen_fst, mul_one, up_fst, add_zero]
      · rw [add_snd, mk_snd, gen_snd, mul_zero, up_snd, zero_add]
    rw [Nat.pow_succ, Nat.mul_two, ← sqn_sqn]
    conv => lhs; rw [hz]
    rw [sqn_add, sqn_mul, hF, hF, sqn_add, sqn_mul, hF, hF, hXX, ← hz]
theorem fermat_low {l m : Nat} (h : l ≤ m) {x : T m} (hx : val x < Q l) : sqn (2 ^ l) x = x := by
  obtain ⟨d, rfl⟩ := Nat.le.dest h
  have e : x = ups d (of l (val x)) := by
    apply val_inj
    rw [val_ups, val_of _ _ hx]
  rw [e, sqn_ups, fermat]
/-- The inverse of a number of a level, there and above. -/
theorem val_inv_of {l m v : Nat} (h : l ≤ m) (hv : v < Q l) : val (invT (of m v)) = val (invT (of l v)) := by
  obtain ⟨d, rfl⟩ := Nat.le.dest h
  rw [← ups_of hv, invT_ups, val_ups]
/-- The product of squares, squared again and again. -/
def psq {n : Nat} (x : T n) : Nat → T n
  | 0 => 1
  | k + 1 => psq x k * sqn (k + 1) x
theorem psq_sq {n : Nat} (x : T n) : ∀ k, (x * psq x k) * (x * psq x k) * x = (x * psq x k) * sqn (k + 1) x
  | 0 => by
    show (x * 1) * (x * 1) * x = (x * 1) * (x * x)
    rw [mul_one, mul_assoc]
  | k + 1 => by
    have ih := psq_sq x k
    have e : x * psq x (k + 1) = (x * psq x k) * sqn (k + 1) x := by rw [psq, mul_assoc]
    have e2 : sqn (k + 1 + 1) x = sqn (k + 1) x * sqn (k + 1) x := rfl
    rw [e, e2]
    generalize x * psq x k = N at ih ⊢
    generalize sqn (k + 1) x = s at ih ⊢
    have h1 : N * s * (N * s) * x = (N * N * x) * (s * s) := by simp only [mul_assoc, mul_left_comm, mul_comm]
    rw [h1, ih]
theorem psq_inv {l m : Nat} (h : l ≤ m) {x : T m} (hx : val x < Q l) (h0 : x ≠ 0) : psq x (2 ^ l - 1) = invT x := by
  have hp := Nat.two_pow_pos l
  have hs := psq_sq x (2 ^ l - 1)
  rw [show 2 ^ l - 1 + 1 = 2 ^ l by omega, fermat_low h hx] at hs
  have hne : x * psq x (2 ^ l - 1) ≠ 0 := by
    have : ∀ k, psq x k ≠ 0 := by
      intro k
      induction k with
      | zero => exact one_ne m
      | succ k ih =>
        intro e
        rcases mul_eq_zero e with g | g
        · exact ih g
        · exact sqn_ne h0 (k + 1) g
    intro e
    rcases mul_eq_zero e with g | g
    · exact h0 g
    · exact this _ g
  generalize hN : x * psq x (2 ^ l - 1) = N at hs hne
  have h1 : N * N = N := by
    have : (N * N + N) * x = 0 := by rw [add_mul, hs, add_self]
    rcases mul_eq_zero this with g | g
    · exact add_eq_zero g
    · exact absurd g h0
  have h2 : N = 1 := by
    have : N * (N + 1) = 0 := by rw [mul_add, h1, mul_one, add_self]
    rcases mul_eq_zero this with g | g
    · exact absurd g hne
    · exact add_eq_zero g
  exact (invT_of (hN.trans h2)).symm
end Go.Proofs.Ytfmjodlcjaflfaa.V.B.Tw
namespace Go.Proofs.Ytfmjodlcjaflfaa.V.B.Tw
set_option linter.unusedVariables false
set_option linter.unusedSimpArgs false
theorem join_div {n a b : Nat} (hb : b < Q n) : (a * Q n + b) / Q n = a := by rw [Nat.mul_comm, Nat.mul_add_div (Q_pos n), Nat.div_eq_of_lt hb, Nat.add_zero]
theorem join_mod {n a b : Nat} (hb : b < Q n) : (a * Q n + b) % Q n = b := by rw [Nat.mul_comm, Nat.mul_add_mod, Nat.mod_eq_of_lt hb]
theorem and_join {n a b c d : Nat} (hb : b < Q n) (hd : d < Q n) : (a * Q n + b) &&& (c * Q n + d) = (a &&& c) * Q n + (b &&& d) := by
  have h1 : ((a * Q n + b) &&& (c * Q n + d)) / Q n = a &&& c := by
    have e1 := join_div (n := n) (a := a) hb
    have e2 := join_div (n := n) (a := c) hd
    unfold Q at *
    rw [Nat.and_div_two_pow, e1, e2]
  have h2 : ((a * Q n + b) &&& (c * Q n + d)) % Q n = b &&& d := by
    have e1 := join_mod (n := n) (a := a) hb
    have e2 := join_mod (n := n) (a := c) hd
    unfold Q at *
    rw [Nat.and_mod_two_pow, e1, e2]
  have := Nat.div_add_mod ((a * Q n + b) &&& (c * Q n + d)) (Q n)
  rw [h1, h2, Nat.mul_comm] at this
  exact this.symm
theorem or_join {n a b c d : Nat} (hb : b < Q n) (hd : d < Q n) : (a * Q n + b) ||| (c * Q n + d) = (a ||| c) * Q n + (b ||| d) := by
  have h1 : ((a * Q n + b) ||| (c * Q n + d)) / Q n = a ||| c := by
    have e1 := join_div (n := n) (a := a) hb
    have e2 := join_div (n := n) (a := c) hd
    unfold Q at *
    rw [Nat.or_div_two_pow, e1, e2]
  have h2 : ((a * Q n + b) ||| (c * Q n + d)) % Q n = b ||| d := by
    have e1 := join_mod (n := n) (a := a) hb
    have e2 := join_mod (n := n) (a := c) hd
    unfold Q at *
    rw [Nat.or_mod_two_pow, e1, e2]
  have := Nat.div_add_mod ((a * Q n + b) ||| (c * Q n + d)) (Q n)
  rw [h1, h2, Nat.mul_comm] at this
  exact this.symm
theorem or_lt {n x y : Nat} (hx : x < Q n) (hy : y < Q n) : x ||| y < Q n := Nat.or_lt_two_pow hx hy
/-- The lower halves of all blocks of 2^(j+1) bits in a word of 2^n. -/
def M (j : Nat) : Nat → Nat
  | 0 => 0
  | n + 1 => if n = j then Q j - 1 else if n < j then 0 else M j n * Q n + M j n
theorem M_base (j : Nat) : M j (j + 1) = Q j - 1 := by simp [M]
theorem M_succ {j n : Nat} (h : j + 1 ≤ n) : M j (n + 1) = M j n * Q n + M j n := by
  rw [M, if_neg (by omega), if_neg (by omega)]
/-- What is left of a word without its highest block of 2^j bits. -/
def H (j n : Nat) : Nat := 2 ^ (2 ^ n - 2 ^ j)
theorem H_mul {j n : Nat} (h : j ≤ n) : H j n * Q j = Q n := by
  have := Nat.pow_le_pow_right (show 2 > 0 by decide) h
  unfold H Q; rw [← Nat.pow_add, Nat.sub_add_cancel this]
theorem H_pos (j n : Nat) : 0 < H j n := Nat.two_pow_pos _
theorem H_succ {j n : Nat} (h : j ≤ n) : H j (n + 1) = H j n * Q n := by
  have := Nat.pow_le_pow_right (show 2 > 0 by decide) h
  unfold H Q; rw [← Nat.pow_add]; congr 1; rw [Nat.pow_succ]; omega
theorem H_self (j : Nat) : H j j = 1 := by unfold H; rw [Nat.sub_self, Nat.pow_zero]
theorem H_base (j : Nat) : H j (j + 1) = Q j := by rw [H_succ (Nat.le_refl _), H_self, Nat.one_mul]
theorem H_le {j n : Nat} (h : j ≤ n) : H j n ≤ Q n := by rw [← H_mul h]; exact Nat.le_mul_of_pos_right _ (Q_pos j)
theorem lt_H_mul {j n x : Nat} (h : j ≤ n) (hx : x < H j n) : x * Q j < Q n := by
  rw [← H_mul h]; exact Nat.mul_lt_mul_of_pos_right hx (Q_pos j)
theorem M_lt {j : Nat} : ∀ d, M j (j + 1 + d) < H j (j + 1 + d)
  | 0 => by rw [Nat.add_zero, M_base, H_base]; have := Q_pos j; omega
  | d + 1 => by
    have ih := M_lt (j := j) d
    rw [← Nat.add_assoc, M_succ (by omega), H_succ (by omega)]
    have h2 : M j (j + 1 + d) < Q (j + 1 + d) := Nat.lt_of_lt_of_le ih (H_le (by omega))
    have h3 : M j (j + 1 + d) * Q (j + 1 + d) + Q (j + 1 + d) ≤ H j (j + 1 + d) * Q (j + 1 + d) := by
      have := Nat.mul_le_mul_right (Q (j + 1 + d)) ih
      rw [Nat.succ_mul] at this; exact this
    omega
theorem M_lt' {j n : Nat} (h : j + 1 ≤ n) : M j n < H j n := by
  obtain ⟨d, rfl⟩ := Nat.le.dest h; exact M_lt d
theorem M_lt_Q {j n : Nat} (h : j + 1 ≤ n) : M j n < Q n := Nat.lt_of_lt_of_le (M_lt' h) (H_le (by omega))
theorem and_le_lt {x m b : Nat} (h : m < b) : x &&& m < b := Nat.lt_of_le_of_lt Nat.and_le_right h
/-- A word times the generator of the level j, block by block. -/
def tw (n : Nat) : Nat → Nat → Nat
  | 0, v => v
  | j + 1, v => (((v &&& M j n) ^^^ tw n j ((v / Q j) &&& M j n)) * Q j) % Q n ||| ((v / Q j) &&& M j n)
theorem gen_lt (j : Nat) : val (gen j) < Q j := val_lt _
theorem scal_top {j g : Nat} (hg : g < Q j) : ∀ d u, u < H j (j + d) → val (of (j + d) g * of (j + d) u) < H j (j + d)
  | 0, u, hu => by
    rw [Nat.add_zero, H_self] at hu ⊢
    have : u = 0 := by omega
    rw [this, of_zero, mul_zero, val_zero]; decide
  | d + 1, u, hu => by
    rw [← Nat.add_assoc] at hu ⊢
    rw [H_succ (Nat.le_add_right _ _)] at hu ⊢
    have hg' : g < Q (j + d) := Nat.lt_of_lt_of_le hg (Q_mono (Nat.le_add_right _ _))
    have e1 : of (j + d + 1) g = up (of (j + d) g) := of_low hg'
    rw [e1, up_mul_any, val_succ, mk_fst, mk_snd, of_succ, mk_fst, mk_snd]
    have h1 := scal_top hg d (u / Q (j + d)) (Nat.div_lt_of_lt_mul (by rw [Nat.mul_comm]; exact hu))
    have h2 := val_lt (of (j + d) g * of (j + d) (u % Q (j + d)))
    have h3 : val (of (j + d) g * of (j + d) (u / Q (j + d))) * Q (j + d) + Q (j + d) ≤ H j (j + d) * Q (j + d) := by
      have := Nat.mul_le_mul_right (Q (j + d)) h1
      rw [Nat.succ_mul] at this; exact this
    omega
theorem tw_split {j : Nat} (C : ∀ n, j ≤ n → ∀ v, v < Q n → tw n j v = val (of n (val (gen j)) * of n v)) (D : ∀ n, j ≤ n → ∀ h l, h < Q n → l < Q n → tw (n + 1) j (h * Q n + l) = tw n j h * Q n + tw n j l) :
    ∀ n, j + 1 ≤ n → ∀ h l, h < Q n → l < Q n → tw (n + 1) (j + 1) (h * Q n + l) = tw n (j + 1) h * Q n + tw n (j + 1) l ∧ tw n (j + 1) l < Q n := by
  intro n hn h l hh hl
  have hM := M_lt' hn
  have hMQ := M_lt_Q hn
  have hjn : j ≤ n := by omega
  have hQj := Q_pos j
  -- the higher parts
  have hdiv : (h * Q n + l) / Q j = (h / Q j) * Q n + ((h % Q j) * H j n + l / Q j) := by
    have e1 : h * Q n = (h * H j n) * Q j := by rw [← H_mul hjn, Nat.mul_assoc]
    rw [e1, Nat.mul_comm (h * H j n), Nat.mul_add_div hQj]
    have e2 := Nat.div_add_mod h (Q j)
    have e3 : h * H j n = (h / Q j) * Q n + (h % Q j) * H j n := by
      conv => lhs; rw [← e2]
      rw [Nat.add_mul, ← H_mul hjn]
      congr 1
      rw [Nat.mul_comm (Q j), Nat.mul_assoc, Nat.mul_comm (Q j)]
    rw [e3, Nat.add_assoc]
  have hlq : l / Q j < H j n := Nat.div_lt_of_lt_mul (by rw [Nat.mul_comm, H_mul hjn]; exact hl)
  have hl' : (h % Q j) * H j n + l / Q j < Q n := by
    have h1 : (h % Q j) * H j n + H j n ≤ Q j * H j n := by
      have := Nat.mul_le_mul_right (H j n) (Nat.mod_lt h hQj)
      rw [Nat.succ_mul] at this; exact this
    rw [Nat.mul_comm (Q j), H_mul hjn] at h1
    omega
  have hand : ((h % Q j) * H j n + l / Q j) &&& M j n = (l / Q j) &&& M j n := by
    have e1 : ∀ x, x &&& M j n = (x % H j n) &&& M j n := fun x => by
      have h3 : x &&& M j n < H j n := and_le_lt hM
      have h4 : (x &&& M j n) % H j n = x &&& M j n := Nat.mod_eq_of_lt h3
      rw [← h4]; unfold H; rw [Nat.and_mod_two_pow]
      rw [show M j n % 2 ^ (2 ^ n - 2 ^ j) = M j n from Nat.mod_eq_of_lt hM]
    rw [e1, Nat.mul_comm, Nat.mul_add_mod, ← e1]
  have hhi : ((h * Q n + l) / Q j) &&& M j (n + 1) = ((h / Q j) &&& M j n) * Q n + ((l / Q j) &&& M j n) := by
    rw [M_succ hn, hdiv, and_join hl' hMQ, hand]
  have hlo : (h * Q n + l) &&& M j (n + 1) = (h &&& M j n) * Q n + (l &&& M j n) := by rw [M_succ hn, and_join hl hMQ]
  have b1 : (h / Q j) &&& M j n < Q n := and_le_lt hMQ
  have b2 : (l / Q j) &&& M j n < Q n := and_le_lt hMQ
  have b3 : l &&& M j n < H j n := and_le_lt hM
  have b4 : (l / Q j) &&& M j n < H j n := and_le_lt hM
  have b5 : tw n j ((l / Q j) &&& M j n) < H j n := by
    rw [C n hjn _ b2]
    obtain ⟨d, rfl⟩ := Nat.le.dest hjn
    exact scal_top (gen_lt j) d _ b4
  have b6 : (l &&& M j n) ^^^ tw n j ((l / Q j) &&& M j n) < H j n := Nat.xor_lt_two_pow b3 b5
  have b7 := lt_H_mul hjn b6
  have b8 : tw n j ((l / Q j) &&& M j n) < Q n := Nat.lt_of_lt_of_le b5 (H_le hjn)
  have b9 : l &&& M j n < Q n := and_le_lt hMQ
  constructor
  · simp only [tw]
    rw [hhi, hlo, D n hjn _ _ b1 b2, xor_join b9 b8, Nat.add_mul]
    have e5 : ∀ X Y : Nat, Y < Q n → (X * Q n * Q j + Y) % Q (n + 1) = ((X * Q j) % Q n) * Q n + Y := by
      intro X Y hY
      rw [show X * Q n * Q j = X * Q j * Q n by rw [Nat.mul_assoc, Nat.mul_comm (Q n), ← Nat.mul_assoc], Q_succ]
      rw [Nat.mul_comm (X * Q j), Nat.mod_mul, Nat.mul_add_mod, Nat.mod_eq_of_lt hY, Nat.mul_add_div (Q_pos n), Nat.div_eq_of_lt hY, Nat.add_zero, Nat.mul_comm (Q n), Nat.add_comm]
    rw [e5 _ _ b7, or_join b7 b2, Nat.mod_eq_of_lt b7]
  · simp only [tw]
    exact or_lt (Nat.mod_lt _ (Q_pos n)) b2
theorem tw_laws : ∀ j, (∀ n, j ≤ n → ∀ v, v < Q n → tw n j v = val (of n (val (gen j)) * of n v)) ∧ (∀ n, j ≤ n → ∀ h l, h < Q n → l < Q n → tw (n + 1) j (h * Q n + l) = tw n j h * Q n + tw n j l)
  | 0 => ⟨fun n _ v hv => by rw [gen_zero, val_one, of_one, one_mul, val_of _ _ hv]; rfl, fun n _ h l _ _ => rfl⟩
  | j + 1 => by
    obtain ⟨C, D⟩ := tw_laws j
    have D' := tw_split C D
    refine ⟨?_, fun n hn h l hh hl => (D' n hn h l hh hl).1⟩
    intro n hn
    obtain ⟨d, rfl⟩ := Nat.le.dest hn
    clear hn
    induction d with
    | zero =>
      intro v hv
      rw [Nat.add_zero] at hv ⊢
      have hQj := Q_pos j
      have hd : v / Q j < Q j := Nat.div_lt_of_lt_mul (by rw [← Q_succ]; exact hv)
      have hm : v % Q j < Q j := Nat.mod_lt _ hQj
      have hmask : ∀ x, x &&& M j (j + 1) = x % Q j := fun x => by rw [M_base]; unfold Q; rw [Nat.and_two_pow_sub_one_eq_mod]
      have e1 : tw (j + 1) j (v / Q j) = val (gen j * of j (v / Q j)) := by
        rw [C (j + 1) (by omega) _ (Nat.lt_of_lt_of_le hd (Q_le_succ j)), val_mul_low (d := 1) (gen_lt j) hd, of_val]
      simp only [tw]
      rw [hmask, hmask, Nat.mod_eq_of_lt hd, e1]
      have hv2 := val_lt (gen j * of j (v / Q j))
      have hX := xor_lt hm hv2
      rw [Nat.mod_eq_of_lt (show _ * Q j < Q (j + 1) by rw [Q_succ]; exact Nat.mul_lt_mul_of_pos_right hX hQj)]
      have hor : ∀ X, X * Q j ||| (v / Q j) = X * Q j + v / Q j := fun X => by
        have := or_join (n := j) (a := X) (b := 0) (c := 0) (d := v / Q j) hQj hd
        simpa using this
      rw [hor, of_val, val_succ]
      congr 1
      · congr 1
        rw [mul_fst, gen_fst, gen_snd, one_mul, zero_mul, one_mul, add_zero, of_succ, mk_fst, mk_snd, val_add, val_of _ _ hm]
      · rw [mul_snd, gen_fst, gen_snd, one_mul, zero_mul, zero_add, of_succ, mk_fst, val_of _ _ hd]
    | succ d ih =>
      intro v hv
      rw [← Nat.add_assoc] at hv ⊢
      have hvd := Nat.div_add_mod v (Q (j + 1 + d))
      rw [Nat.mul_comm] at hvd
      have h1 : v / Q (j + 1 + d) < Q (j + 1 + d) := Nat.div_lt_of_lt_mul (by rw [← Q_succ]; exact hv)
      have h2 : v % Q (j + 1 + d) < Q (j + 1 + d) := Nat.mod_lt _ (Q_pos _)
      have hg : val (gen (j + 1)) < Q (j + 1 + d) := Nat.lt_of_lt_of_le (gen_lt (j + 1)) (Q_mono (Nat.le_add_right _ _))
      have e1 : of (j + 1 + d + 1) (val (gen (j + 1))) = up (of (j + 1 + d) (val (gen (j + 1)))) := of_low hg
      rw [e1, up_mul_any, val_succ, mk_fst, mk_snd, of_succ, mk_fst, mk_snd, ← ih _ h1, ← ih _ h2]
      conv => lhs; rw [← hvd]
      exact (D' (j + 1 + d) (by omega) _ _ h1 h2).1
theorem tw_eq {j n v : Nat} (h : j ≤ n) (hv : v < Q n) : tw n j v = val (of n (val (gen j)) * of n v) := (tw_laws j).1 n h v hv
/-- A bit of a level is a product of generators. -/
def gp (n : Nat) : Nat → Nat → T n
  | 0, _ => 1
  | m + 1, i => (if i.testBit m then of n (val (gen (m + 1))) else 1) * gp n m i
theorem gp_up {n : Nat} : ∀ m i, m ≤ n → gp (n + 1) m i = up (gp n m i)
  | 0, i, _ => rfl
  | m + 1, i, h => by
    show (if i.testBit m then of (n + 1) (val (gen (m + 1))) else 1) * gp (n + 1) m i = up ((if i.testBit m then of n (val (gen (m + 1))) else 1) * gp n m i)
    rw [up_mul, gp_up m i (by omega)]
    congr 1
    split
    · exact of_low (Nat.lt_of_lt_of_le (gen_lt (m + 1)) (Q_mono h))
    · rfl
theorem gp_mod {n : Nat} : ∀ m i k, m ≤ k → gp n m (i % 2 ^ k) = gp n m i
  | 0, i, k, _ => rfl
  | m + 1, i, k, h => by
    show (if (i % 2 ^ k).testBit m then _ else _) * gp n m (i % 2 ^ k) = (if i.testBit m then _ else _) * gp n m i
    rw [gp_mod m i k (by omega), Nat.testBit_mod_two_pow, decide_eq_true (by omega), Bool.true_and]
theorem gp_bit : ∀ n i, i < 2 ^ n → gp n n i = of n (2 ^ i)
  | 0, i, h => by
    have : i = 0 := by simpa using h
    rw [this]; rfl
  | n + 1, i, h => by
    show (if i.testBit n then of (n + 1) (val (gen (n + 1))) else 1) * gp (n + 1) n i = of (n + 1) (2 ^ i)
    rw [gp_up n i (Nat.le_refl _), ← gp_mod n i n (Nat.le_refl _), gp_bit n _ (Nat.mod_lt _ (Nat.two_pow_pos n))]
    rw [Nat.pow_succ] at h
    by_cases c : i < 2 ^ n
    · rw [Nat.testBit_lt_two_pow c, Nat.mod_eq_of_lt c]
      rw [of_low (show 2 ^ i < Q n from Nat.pow_lt_pow_right (by decide) c)]
      simp only [Bool.false_eq_true, if_false, one_mul]; rfl
    · have hi : i % 2 ^ n = i - 2 ^ n := by rw [Nat.mod_eq_sub_mod (by omega), Nat.mod_eq_of_lt (by omega)]
      have hb : i.testBit n = true := by
        have := Nat.testBit_two_pow_add_eq (i - 2 ^ n) n
        rw [show 2 ^ n + (i - 2 ^ n) = i by omega, Nat.testBit_lt_two_pow (show i - 2 ^ n < 2 ^ n by omega)] at this
        simpa using this
      rw [hb, if_pos rfl, hi, of_val]
      have e : 2 ^ i = 2 ^ (i - 2 ^ n) * Q n + 0 := by
        unfold Q; rw [← Nat.pow_add, Nat.add_zero]; congr 1; omega
      rw [e, of_succ, join_div (Q_pos n), join_mod (Q_pos n), of_zero]
      apply ext
      · rw [mul_fst, gen_fst, gen_snd, up_fst, up_snd, one_mul, zero_mul, mul_zero, mul_zero, add_zero, add_zero]; rfl
      · rw [mul_snd, gen_fst, gen_snd, up_fst, zero_mul, mul_zero, add_zero]; rfl
/-- An element is the sum of its bits. -/
theorem bits_sum {n : Nat} (b k : Nat) (hb : b < Q n) (hk : k < 2 ^ n) : of n (b % 2 ^ (k + 1)) = of n (b % 2 ^ k) + (if b.testBit k then of n (2 ^ k) else 0) := by
  have h2 : 2 ^ k < Q n := Nat.pow_lt_pow_right (by decide) hk
  have h1 : b % 2 ^ k < Q n := Nat.lt_trans (Nat.mod_lt _ (Nat.two_pow_pos k)) h2
  have e : b % 2 ^ (k + 1) = b % 2 ^ k ^^^ (if b.testBit k then 2 ^ k else 0) := by
    apply Nat.eq_of_testBit_eq
    intro i
    rw [Nat.testBit_xor, Nat.testBit_mod_two_pow, Nat.testBit_mod_two_pow]
    by_cases hi : i = k
    · subst hi
      cases hbi : b.testBit i <;> simp
    · by_cases hlt : i < k
      · have : decide (i < k + 1) = true := decide_eq_true (by omega)
        rw [this, decide_eq_true hlt]
        split
        · rw [Nat.testBit_two_pow_of_ne (by omega)]; simp
        · simp
      · rw [decide_eq_false (by omega), decide_eq_false hlt]
        split
        · rw [Nat.testBit_two_pow_of_ne (by omega)]; simp
        · simp
  rw [e]
  split
  · rw [of_xor h1 h2]
  · rw [Nat.xor_zero, add_zero]
end Go.Proofs.Ytfmjodlcjaflfaa.V.B.Tw
namespace Go.Proofs.Ytfmjodlcjaflfaa.V.B.Tw
set_option linter.unusedVariables false
set_option linter.unusedSimpArgs false
section
variable {n : Nat}
/-- Has an element a bit? -/
def bitT (x : T n) (k : Nat) : Bool := (val x).testBit k
theorem bitT_add (x y : T n) (k : Nat) : bitT (x + y) k = (bitT x k ^^ bitT y k) := by
  unfold bitT; rw [val_add, Nat.testBit_xor]
theorem bitT_zero (k : Nat) : bitT (0 : T n) k = false := by unfold bitT; rw [val_zero, Nat.zero_testBit]
theorem bitT_ext {x y : T n} (h : ∀ k, bitT x k = bitT y k) : x = y := val_inj (Nat.eq_of_testBit_eq h)
/-- The leading bit. -/
def ld (x : T n) : Nat := Nat.log2 (val x)
theorem ld_bit {x : T n} (h : x ≠ 0) : bitT x (ld x) = true := by
  have hv : val x ≠ 0 := fun e => h (val_eq_zero.1 e)
  exact Nat.testBit_log2 hv
theorem ld_above {x : T n} {k : Nat} (h : ld x < k) : bitT x k = false := by
  unfold bitT
  by_cases hv : val x = 0
  · rw [hv, Nat.zero_testBit]
  · exact Nat.testBit_lt_two_pow ((Nat.log2_lt hv).1 h)
theorem ld_eq {x : T n} {k : Nat} (h1 : bitT x k = true) (h2 : ∀ j, k < j → bitT x j = false) : ld x = k := by
  have hx : x ≠ 0 := fun e => by rw [e, bitT_zero] at h1; cases h1
  rcases Nat.lt_trichotomy (ld x) k with h | h | h
  · rw [ld_above h] at h1; cases h1
  · exact h
  · have := ld_bit hx
    rw [h2 _ h] at this; cases this
/-- The span of a list. -/
def InSp : List (T n) → T n → Prop
  | [], x => x = 0
  | a :: l, x => InSp l x ∨ InSp l (x + a)
theorem InSp.zero : ∀ (l : List (T n)), InSp l 0
  | [] => rfl
  | _ :: l => .inl (InSp.zero l)
theorem InSp.add : ∀ {l : List (T n)} {x y : T n}, InSp l x → InSp l y → InSp l (x + y)
  | [], x, y, hx, hy => by rw [show x = 0 from hx, show y = 0 from hy, add_zero]; rfl
  | a :: l, x, y, hx, hy => by
    rcases hx with hx | hx <;> rcases hy with hy | hy
    · exact .inl (hx.add hy)
    · right; have := hx.add hy; rwa [← add_assoc] at this
    · right; have := hx.add hy; rwa [add_assoc, add_comm a, ← add_assoc] at this
    · left
      have := hx.add hy
      rwa [add_assoc, add_left_comm a, add_self, add_zero] at this
theorem InSp.mem : ∀ {l : List (T n)} {x : T n}, x ∈ l → InSp l x
  | a :: l, x, h => by
    rcases List.mem_cons.1 h with rfl | h
    · right; rw [add_self]; exact InSp.zero l
    · exact .inl (InSp.mem h)
theorem InSp.of : ∀ {l m : List (T n)}, (∀ a ∈ l, InSp m a) → ∀ {x : T n}, InSp l x → InSp m x
  | [], m, _, x, hx => by rw [show x = 0 from hx]; exact InSp.zero m
  | a :: l, m, h, x, hx => by
    have hl : ∀ b ∈ l, InSp m b := fun b hb => h b (List.mem_cons_of_mem _ hb)
    rcases hx with hx | hx
    · exact InSp.of hl hx
    · have := (InSp.of hl hx).add (h a List.mem_cons_self)
      rwa [add_assoc, add_self, add_zero] at this
theorem InSp.cons {l : List (T n)} {a x : T n} (h : InSp l x) : InSp (a :: l) x := .inl h
theorem InSp.append_left {l m : List (T n)} {x : T n} (h : InSp l x) : InSp (l ++ m) x := InSp.of (fun a ha => InSp.mem (List.mem_append_left _ ha)) h
theorem InSp.append_right {l m : List (T n)} {x : T n} (h : InSp m x) : InSp (l ++ m) x := InSp.of (fun a ha => InSp.mem (List.mem_append_right _ ha)) h
theorem inSp_bit {l : List (T n)} {k : Nat} (h : ∀ a ∈ l, bitT a k = false) : ∀ {x : T n}, InSp l x → bitT x k = false := by
  induction l with
  | nil => intro x hx; rw [show x = 0 from hx, bitT_zero]
  | cons a l ih =>
    intro x hx
    have ha := h a List.mem_cons_self
    have ih := fun {x} => ih (fun b hb => h b (List.mem_cons_of_mem _ hb)) (x := x)
    rcases hx with hx | hx
    · exact ih hx
    · have := ih hx
      rw [bitT_add, ha, Bool.xor_false] at this
      exact this
/-- A reduced basis: leading bits fall, and each is in its element alone. -/
structure Red (R : List (T n)) : Prop where
  ne : ∀ x ∈ R, x ≠ 0
  fall : R.Pairwise fun x y => ld y < ld x
  own : ∀ x ∈ R, ∀ y ∈ R, x ≠ y → bitT y (ld x) = false
theorem Red.nil : Red ([] : List (T n)) where
  ne := fun x hx => by cases hx
  fall := .nil
  own := fun x hx => by cases hx
theorem Red.tail {a : T n} {R : List (T n)} (h : Red (a :: R)) : Red R :=
  ⟨fun x hx => h.ne x (List.mem_cons_of_mem _ hx), (List.pairwise_cons.1 h.fall).2, fun x hx y hy => h.own x (List.mem_cons_of_mem _ hx) y (List.mem_cons_of_mem _ hy)⟩
theorem Red.head_ne {a : T n} {R : List (T n)} (h : Red (a :: R)) : ∀ x ∈ R, x ≠ a := fun x hx e => by
  have := (List.pairwise_cons.1 h.fall).1 x hx
  rw [e] at this
  exact Nat.lt_irrefl _ this
/-- In the span, and without the leading bits: zero. -/
theorem Red.zero : ∀ {R : List (T n)}, Red R → ∀ {y : T n}, InSp R y → (∀ b ∈ R, bitT y (ld b) = false) → y = 0
  | [], _, y, h, _ => h
  | a :: R, hR, y, h, hb => by
    have ha := hb a List.mem_cons_self
    rcases h with h | h
    · exact hR.tail.zero h fun b hb' => hb b (List.mem_cons_of_mem _ hb')
    · have h1 : bitT (y + a) (ld a) = false := inSp_bit (fun b hb' => hR.own a List.mem_cons_self b (List.mem_cons_of_mem _ hb') (hR.head_ne b hb').symm) h
      rw [bitT_add, ha, ld_bit (hR.ne a List.mem_cons_self)] at h1
      cases h1
/-- Leading bits of the span are those of the basis. -/
theorem Red.lead : ∀ {R : List (T n)}, Red R → ∀ {y : T n}, InSp R y → y ≠ 0 → ∃ b ∈ R, ld b = ld y
  | [], _, y, h, hy => absurd h hy
  | a :: R, hR, y, h, hy => by
    rcases h with h | h
    · obtain ⟨b, h1, h2⟩ := hR.tail.lead h hy
      exact ⟨b, List.mem_cons_of_mem _ h1, h2⟩
    · refine ⟨a, List.mem_cons_self, ?_⟩
      have hz : ∀ j, ld a ≤ j → bitT (y + a) j = false := fun j hj => inSp_bit (fun b hb => ld_above (Nat.lt_of_lt_of_le ((List.pairwise_cons.1 hR.fall).1 b hb) hj)) h
      have hy2 : y = (y + a) + a := by rw [add_assoc, add_self, add_zero]
      have e : ld y = ld a := by
        apply ld_eq
        · rw [hy2, bitT_add, hz _ (Nat.le_refl _), ld_bit (hR.ne a List.mem_cons_self)]; rfl
        · intro j hj
          rw [hy2, bitT_add, hz j (Nat.le_of_lt hj), ld_above hj]; rfl
      exact e.symm
theorem fall_ext : ∀ {R S : List (T n)}, (R.Pairwise fun x y => ld y < ld x) → (S.Pairwise fun x y => ld y < ld x) → (∀ x, x ∈ R ↔ x ∈ S) → R = S
  | [], [], _, _, _ => rfl
  | [], s :: S, _, _, h => absurd ((h s).2 List.mem_cons_self) List.not_mem_nil
  | r :: R, [], _, _, h => absurd ((h r).1 List.mem_cons_self) List.not_mem_nil
  | r :: R, s :: S, hR, hS, h => by
    obtain ⟨r1, r2⟩ := List.pairwise_cons.1 hR
    obtain ⟨s1, s2⟩ := List.pairwise_cons.1 hS
    have e : r = s := by
      rcases List.mem_cons.1 ((h r).1 List.mem_cons_self) with e | h1
      · exact e
      · rcases List.mem_cons.1 ((h s).2 List.mem_cons_self) with e | h2
        · exact e.symm
        · have := s1 r h1
          have := r1 s h2
          omega
    subst e
    congr 1
    refine fall_ext r2 s2 fun x => ⟨fun hx => ?_, fun hx => ?_⟩
    · rcases List.mem_cons.1 ((h x).1 (List.mem_cons_of_mem _ hx)) with e | h1
      · have := r1 x hx; rw [e] at this; omega
      · exact h1
    · rcases List.mem_cons.1 ((h x).2 (List.mem_cons_of_mem _ hx)) with e | h1
      · have := s1 x hx; rw [e] at this; omega
      · exact h1
/-- There is one reduced basis. -/
theorem Red.uniq {R S : List (T n)} (hR : Red R) (hS : Red S) (h : ∀ x, InSp R x ↔ InSp S x) : R = S := by
  have half : ∀ {R S : List (T n)}, Red R → Red S → (∀ x, InSp R x ↔ InSp S x) → ∀ x ∈ R, x ∈ S := by
    intro R S hR hS h x hx
    obtain ⟨d, hd, hdl⟩ := hS.lead ((h x).1 (InSp.mem hx)) (hR.ne x hx)
    have hz : x + d = 0 := by
      refine hR.zero ((InSp.mem hx).add ((h d).2 (InSp.mem hd))) fun b hb => ?_
      rw [bitT_add]
      by_cases e : b = x
      · rw [e, ld_bit (hR.ne x hx), ← hdl, ld_bit (hS.ne d hd)]; rfl
      · rw [hR.own b hb x hx e]
        obtain ⟨c, hc, hcl⟩ := hS.lead ((h b).1 (InSp.mem hb)) (hR.ne b hb)
        have hcd : c ≠ d := by
          rintro rfl
          -- two rows of R with the same leading bit
          have h1 : ld b = ld x := by rw [← hcl, hdl]
          have h2 := hR.own b hb x hx e
          rw [h1, ld_bit (hR.ne x hx)] at h2
          cases h2
        rw [← hcl, hS.own c hc d hd hcd]; rfl
    rw [add_eq_zero hz]; exact hd
  exact fall_ext hR.fall hS.fall fun x => ⟨half hR hS h x, half hS hR (fun x => (h x).symm) x⟩
/-- An element without the leading bits of a basis. -/
def lessT : List (T n) → T n → T n
  | [], x => x
  | b :: R, x => lessT R (if bitT x (ld b) = true then x + b else x)
theorem less_sp : ∀ (R : List (T n)) (x : T n), InSp R (lessT R x + x)
  | [], x => add_self x
  | b :: R, x => by
    have := less_sp R (if bitT x (ld b) = true then x + b else x)
    rw [lessT]
    by_cases c : bitT x (ld b) = true
    · rw [if_pos c] at this ⊢
      right; rwa [← add_assoc] at this
    · rw [if_neg c] at this ⊢
      exact .inl this
theorem less_keep : ∀ (R : List (T n)) (x : T n) (k : Nat), (∀ b ∈ R, bitT b k = false) → bitT (lessT R x) k = bitT x k
  | [], x, k, _ => rfl
  | b :: R, x, k, h => by
    rw [lessT, less_keep R _ k fun c hc => h c (List.mem_cons_of_mem _ hc)]
    by_cases c : bitT x (ld b) = true
    · rw [if_pos c, bitT_add, h b List.mem_cons_self, Bool.xor_false]
    · rw [if_neg c]
theorem less_bit : ∀ {R : List (T n)}, Red R → ∀ (x : T n), ∀ b ∈ R, bitT (lessT R x) (ld b) = false
  | a :: R, hR, x, b, hb => by
    rw [lessT]
    rcases List.mem_cons.1 hb with rfl | hb
    · rw [less_keep R _ _ fun c hc => hR.own b List.mem_cons_self c (List.mem_cons_of_mem _ hc) (hR.head_ne c hc).symm]
      by_cases c : bitT x (ld b) = true
      · rw [if_pos c, bitT_add, c, ld_bit (hR.ne b List.mem_cons_self)]; rfl
      · rw [if_neg c]; simpa using c
    · exact less_bit hR.tail _ b hb
theorem less_zero {R : List (T n)} (hR : Red R) (x : T n) : lessT R x = 0 ↔ InSp R x := by
  constructor
  · intro h
    have := less_sp R x
    rwa [h, zero_add] at this
  · intro h
    refine hR.zero ?_ (less_bit hR x)
    have := (less_sp R x).add h
    rwa [add_assoc, add_self, add_zero] at this
/-- In order of the leading bits. -/
def insT (y : T n) : List (T n) → List (T n)
  | [] => [y]
  | b :: R => if ld b < ld y then y :: b :: R else b :: insT y R
theorem insT_mem (y : T n) : ∀ (R : List (T n)) (x : T n), x ∈ insT y R ↔ x = y ∨ x ∈ R
  | [], x => by simp [insT]
  | b :: R, x => by
    unfold insT
    split
    · simp
    · rw [List.mem_cons, insT_mem y R x, List.mem_cons]
      constructor
      · rintro (h | h | h)
        · exact .inr (.inl h)
        · exact .inl h
        · exact .inr (.inr h)
      · rintro (h | h | h)
        · exact .inr (.inl h)
        · exact .inl h
        · exact .inr (.inr h)
theorem insT_length (y : T n) : ∀ R : List (T n), (insT y R).length = R.length + 1
  | [] => rfl
  | b :: R => by
    unfold insT
    split
    · rfl
    · rw [List.length_cons, insT_length y R, List.length_cons]
theorem insT_fall (y : T n) : ∀ {R : List (T n)}, (R.Pairwise fun x y => ld y < ld x) → (∀ x ∈ R, ld x ≠ ld y) → (insT y R).Pairwise fun x y => ld y < ld x
  | [], _, _ => by simp [insT]
  | b :: R, h, hne => by
    obtain ⟨h1, h2⟩ := List.pairwise_cons.1 h
    have hb := hne b List.mem_cons_self
    unfold insT
    split
    · rename_i hlt
      refine List.pairwise_cons.2 ⟨fun x hx => ?_, h⟩
      rcases List.mem_cons.1 hx with rfl | hx
      · exact hlt
      · have := h1 x hx; omega
    · refine List.pairwise_cons.2 ⟨fun x hx => ?_, insT_fall y h2 fun x hx => hne x (List.mem_cons_of_mem _ hx)⟩
      rcases (insT_mem y R x).1 hx with rfl | hx
      · omega
      · exact h1 x hx
/-- A row without the leading bit of another one. -/
def clrT (y b : T n) : T n := if bitT b (ld y) = true then b + y else b
/-- A basis, and one element more. -/
def putT (R : List (T n)) (x : T n) : List (T n) := if lessT R x = 0 then R else insT (lessT R x) (R.map (clrT (lessT R x)))
theorem clr_ld {y b : T n} (hb : b ≠ 0) (h : bitT y (ld b) = false) : ld (clrT y b) = ld b ∧ clrT y b ≠ 0 := by
  have hbb := ld_bit hb
  unfold clrT
  by_cases c : bitT b (ld y) = true
  · rw [if_pos c]
    have hle : ld y ≤ ld b := by
      apply Classical.byContradiction
      intro g
      rw [ld_above (by omega)] at c; cases c
    have h1 : bitT (b + y) (ld b) = true := by rw [bitT_add, hbb, h]; rfl
    refine ⟨ld_eq h1 fun j hj => ?_, fun e => ?_⟩
    · rw [bitT_add, ld_above hj, ld_above (by omega)]; rfl
    · rw [e, bitT_zero] at h1; cases h1
  · rw [if_neg c]; exact ⟨rfl, hb⟩
theorem put_red {R : List (T n)} (hR : Red R) (x : T n) : Red (putT R x) := by
  unfold putT
  by_cases c : lessT R x = 0
  · rw [if_pos c]; exact hR
  rw [if_neg c]
  have hy := less_bit hR x
  generalize lessT R x = y at c hy
  have hlead : ∀ b ∈ R, ld (clrT y b) = ld b ∧ clrT y b ≠ 0 := fun b hb => clr_ld (hR.ne b hb) (hy b hb)
  have hyb := ld_bit c
  have hne : ∀ b ∈ R, ld b ≠ ld y := fun b hb e => by
    have := hy b hb
    rw [e, hyb] at this; cases this
  have hcy : ∀ b, bitT (clrT y b) (ld y) = false := fun b => by
    unfold clrT
    by_cases g : bitT b (ld y) = true
    · rw [if_pos g, bitT_add, g, hyb]; rfl
    · rw [if_neg g]; simpa using g
  have hother : ∀ a ∈ R, ∀ b, bitT b (ld a) = false → bitT (clrT y b) (ld a) = false := fun a ha b hb => by
    unfold clrT
    by_cases g : bitT b (ld y) = true
    · rw [if_pos g, bitT_add, hb, hy a ha]; rfl
    · rw [if_neg g]; exact hb
  refine ⟨fun z hz => ?_, ?_, fun z hz w hw hzw => ?_⟩
  · rcases (insT_mem y _ z).1 hz with rfl | hz
    · exact c
    · obtain ⟨b, hb, rfl⟩ := List.mem_map.1 hz
      exact (hlead b hb).2
  · refine insT_fall y ?_ fun z hz => ?_
    · rw [List.pairwise_map]
      refine hR.fall.imp_of_mem fun {a b} ha hb h => ?_
      rw [(hlead a ha).1, (hlead b hb).1]; exact h
    · obtain ⟨b, hb, rfl⟩ := List.mem_map.1 hz
      rw [(hlead b hb).1]; exact hne b hb
  · rcases (insT_mem y _ z).1 hz with rfl | hz
    · rcases (insT_mem z _ w).1 hw with rfl | hw
      · exact absurd rfl hzw
      · obtain ⟨b, hb, rfl⟩ := List.mem_map.1 hw
        exact hcy b
    · obtain ⟨a, ha, rfl⟩ := List.mem_map.1 hz
      rw [(hlead a ha).1]
      rcases (insT_mem y _ w).1 hw with rfl | hw
      · exact hy a ha
      · obtain ⟨b, hb, rfl⟩ := List.mem_map.1 hw
        refine hother a ha b (hR.own a ha b hb ?_)
        rintro rfl
        exact hzw rfl
theorem put_sp (R : List (T n)) (x z : T n) : InSp (putT R x) z ↔ InSp (x :: R) z := by
  unfold putT
  have hs := less_sp R x
  by_cases c : lessT R x = 0
  · rw [if_pos c]
    rw [c, zero_add] at hs
    exact ⟨fun h => .inl h, InSp.of fun a ha => (List.mem_cons.1 ha).elim (fun e => e ▸ hs) InSp.mem⟩
  rw [if_neg c]
  generalize hy : lessT R x = y at c hs
  have hyx : InSp (x :: R) y := by
    right; exact hs
  constructor
  · refine InSp.of fun a ha => ?_
    rcases (insT_mem y _ a).1 ha with rfl | ha
    · exact hyx
    · obtain ⟨b, hb, rfl⟩ := List.mem_map.1 ha
      have hb' : InSp (x :: R) b := .inl (InSp.mem hb)
      unfold clrT
      split
      · exact hb'.add hyx
      · exact hb'
  · have hyI : InSp (insT y (R.map (clrT y))) y := InSp.mem ((insT_mem y _ y).2 (.inl rfl))
    have hbI : ∀ b ∈ R, InSp (insT y (R.map (clrT y))) b := fun b hb => by
      have h1 : InSp (insT y (R.map (clrT y))) (clrT y b) := InSp.mem ((insT_mem y _ _).2 (.inr (List.mem_map.2 ⟨b, hb, rfl⟩)))
      unfold clrT at h1
      split at h1
      · have := h1.add hyI
        rwa [add_assoc, add_self, add_zero] at this
      · exact h1
    refine InSp.of fun a ha => ?_
    rcases List.mem_cons.1 ha with rfl | ha
    · have := (InSp.of hbI hs).add hyI
      rwa [add_assoc, add_comm a, ← add_assoc, add_self, zero_add] at this
    · exact hbI a ha
/-- The basis of a span. -/
def basT (l : List (T n)) : List (T n) := l.foldl putT []
theorem foldl_put : ∀ (l R : List (T n)), Red R → Red (l.foldl putT R) ∧ ∀ z, InSp (l.foldl putT R) z ↔ InSp (l ++ R) z
  | [], R, h => ⟨h, fun z => Iff.rfl⟩
  | x :: l, R, h => by
    obtain ⟨h1, h2⟩ := foldl_put l (putT R x) (put_red h x)
    refine ⟨h1, fun z => (h2 z).trans ⟨InSp.of fun a ha => ?_, InSp.of fun a ha => ?_⟩⟩
    · rcases List.mem_append.1 ha with ha | ha
      · exact InSp.mem (List.mem_cons_of_mem _ (List.mem_append_left _ ha))
      · have := (put_sp R x a).1 (InSp.mem ha)
        refine InSp.of (fun b hb => ?_) this
        rcases List.mem_cons.1 hb with rfl | hb
        · exact InSp.mem List.mem_cons_self
        · exact InSp.mem (List.mem_cons_of_mem _ (List.mem_append_right _ hb))
    · rcases List.mem_cons.1 ha with rfl | ha
      · exact InSp.append_right ((put_sp R a a).2 (InSp.mem List.mem_cons_self))
      · rcases List.mem_append.1 ha with ha | ha
        · exact InSp.mem (List.mem_append_left _ ha)
        · exact InSp.append_right ((put_sp R x a).2 (.inl (InSp.mem ha)))
theorem bas_red (l : List (T n)) : Red (basT l) := (foldl_put l [] Red.nil).1
theorem bas_sp (l : List (T n)) (z : T n) : InSp (basT l) z ↔ InSp l z := by
  have := (foldl_put l [] Red.nil).2 z
  rwa [List.append_nil] at this
theorem bas_snoc (l : List (T n)) (x : T n) : basT (l ++ [x]) = putT (basT l) x := by unfold basT; rw [List.foldl_append]; rfl
theorem put_length (R : List (T n)) (x : T n) : (putT R x).length = if lessT R x = 0 then R.length else R.length + 1 := by
  unfold putT
  split
  · rfl
  · rw [insT_length, List.length_map]
/-- One that is new makes the rank greater. -/
theorem rank_snoc (l : List (T n)) (x : T n) : ((basT (l ++ [x])).length = (basT l).length ∧ InSp l x) ∨ ((basT (l ++ [x])).length = (basT l).length + 1 ∧ ¬ InSp l x) := by
  rw [bas_snoc, put_length]
  by_cases c : lessT (basT l) x = 0
  · rw [if_pos c]
    exact .inl ⟨rfl, (bas_sp l x).1 ((less_zero (bas_red l) x).1 c)⟩
  · rw [if_neg c]
    exact .inr ⟨rfl, fun h => c ((less_zero (bas_red l) x).2 ((bas_sp l x).2 h))⟩
theorem rank_le (l : List (T n)) : (basT l).length ≤ l.length := by
  have : ∀ m, m ≤ l.length → (basT (l.take m)).length ≤ m := by
    intro m
    induction m with
    | zero => intro _; simp [basT]
    | succ m ih =>
      intro hm
      have e : l.take (m + 1) = l.take m ++ [l[m]'(by omega)] := List.take_succ_eq_append_getElem (by omega)
      rw [e]
      have := ih (by omega)
      rcases rank_snoc (l.take m) (l[m]'(by omega)) with h | h <;> omega
  have := this l.length (Nat.le_refl _)
  rwa [List.take_of_length_le (Nat.le_refl _)] at this
/-- All are new: the rank is their number. -/
def Indep (l : List (T n)) : Prop := ∀ i (h : i < l.length), ¬ InSp (l.take i) (l[i]'h)
theorem rank_eq (l : List (T n)) : (basT l).length = l.length ↔ Indep l := by
  have key : ∀ m, m ≤ l.length → ((basT (l.take m)).length ≤ m ∧ ((basT (l.take m)).length = m ↔ ∀ i (h : i < l.length), i < m → ¬ InSp (l.take i) (l[i]'h))) := by
    intro m
    induction m with
    | zero => intro _; exact ⟨by simp [basT], by simp [basT]⟩
    | succ m ih =>
      intro hm
      obtain ⟨h1, h2⟩ := ih (by omega)
      have e : l.take (m + 1) = l.take m ++ [l[m]'(by omega)] := List.take_succ_eq_append_getElem (by omega)
      rw [e]
      rcases rank_snoc (l.take m) (l[m]'(by omega)) with ⟨g1, g2⟩ | ⟨g1, g2⟩
      · refine ⟨by omega, ⟨fun h => by omega, fun h => absurd g2 (h m (by omega) (by omega))⟩⟩
      · refine ⟨by omega, ⟨fun h i hi him => ?_, fun h => ?_⟩⟩
        · by_cases c : i = m
          · subst c; exact g2
          · exact h2.1 (by omega) i hi (by omega)
        · have := h2.2 fun i hi him => h i hi (by omega)
          omega
  have := (key l.length (Nat.le_refl _)).2
  rw [List.take_of_length_le (Nat.le_refl _)] at this
  rw [this]
  exact ⟨fun h i hi => h i hi hi, fun h i hi _ => h i hi⟩
end
end Go.Proofs.Ytfmjodlcjaflfaa.V.B.Tw
namespace Go.Proofs.Ytfmjodlcjaflfaa.V.B.Tw
set_option linter.unusedVariables false
set_option linter.unusedSimpArgs false
section
variable {n : Nat}
def row (R : List (T n)) (i : Nat) : T n := R.getD i 0
def clearF (R : List (T n)) (r c i : Nat) : T n := if i = r then row R i else if bitT (row R i) c = true then row R i + row R r else row R i
def clearT (R : List (T n)) (r c : Nat) : List (T n) := (List.range R.length).map (clearF R r c)
theorem clear_length (R : List (T n)) (r c : Nat) : (clearT R r c).length = R.length := by unfold clearT; rw [List.length_map, List.length_range]
theorem row_clear (R : List (T n)) (r c : Nat) {i : Nat} (h : i < R.length) : row (clearT R r c) i = clearF R r c i := by
  unfold row clearT
  rw [List.getD_eq_getElem?_getD, List.getElem?_map, List.getElem?_range h]; rfl
theorem row_mem {R : List (T n)} {i : Nat} (h : i < R.length) : row R i ∈ R := by
  unfold row
  rw [List.getD_eq_getElem?_getD, List.getElem?_eq_getElem h]; exact List.getElem_mem h
theorem mem_row {R : List (T n)} {a : T n} (h : a ∈ R) : ∃ i, i < R.length ∧ a = row R i := by
  obtain ⟨i, hi, e⟩ := List.getElem_of_mem h
  refine ⟨i, hi, ?_⟩
  unfold row
  rw [List.getD_eq_getElem?_getD, List.getElem?_eq_getElem hi]; exact e.symm
theorem add_low {x y : T n} {c : Nat} (hy : ∀ k, c < k → bitT y k = false) (hx : c < ld x) (h0 : x ≠ 0) : ld (x + y) = ld x ∧ x + y ≠ 0 := by
  have h1 : bitT (x + y) (ld x) = true := by rw [bitT_add, ld_bit h0, hy _ hx]; rfl
  refine ⟨ld_eq h1 fun j hj => ?_, fun e => ?_⟩
  · rw [bitT_add, ld_above hj, hy j (by omega)]; rfl
  · rw [e, bitT_zero] at h1; cases h1
/-- The columns from c on are done; t: the rows taken. -/
structure Gau (X : List (T n)) (c : Nat) (R : List (T n)) (t : List Nat) : Prop where
  len : R.length = X.length
  sp : ∀ x, InSp R x ↔ InSp X x
  lt : ∀ r ∈ t, r < R.length
  fall : t.Pairwise fun a b => ld (row R b) < ld (row R a)
  ne : ∀ r ∈ t, row R r ≠ 0
  hig : ∀ r ∈ t, c ≤ ld (row R r)
  own : ∀ r ∈ t, ∀ i, i < R.length → i ≠ r → bitT (row R i) (ld (row R r)) = false
  un : ∀ i, i < R.length → i ∉ t → ∀ k, c ≤ k → bitT (row R i) k = false
theorem Gau.start (X : List (T n)) (c : Nat) (h : ∀ x : T n, ∀ k, c ≤ k → bitT x k = false) : Gau X c X [] where
  len := rfl
  sp := fun _ => Iff.rfl
  lt := fun r hr => by cases hr
  fall := .nil
  ne := fun r hr => by cases hr
  hig := fun r hr => by cases hr
  own := fun r hr => by cases hr
  un := fun i _ _ k hk => h _ k hk
theorem Gau.skip {X R : List (T n)} {c : Nat} {t : List Nat} (g : Gau X (c + 1) R t) (h : ∀ i, i < R.length → i ∉ t → bitT (row R i) c = false) : Gau X c R t :=
  ⟨g.len, g.sp, g.lt, g.fall, g.ne, fun r hr => by have := g.hig r hr; omega, g.own, fun i hi ht k hk => by
    by_cases e : k = c
    · rw [e]; exact h i hi ht
    · exact g.un i hi ht k (by omega)⟩
theorem clear_cases (R : List (T n)) (r c i : Nat) : clearF R r c i = row R i ∨ clearF R r c i = row R i + row R r := by
  unfold clearF
  by_cases h : i = r
  · rw [if_pos h]; exact .inl rfl
  · rw [if_neg h]
    by_cases h2 : bitT (row R i) c = true
    · rw [if_pos h2]; exact .inr rfl
    · rw [if_neg h2]; exact .inl rfl
theorem Gau.take {X R : List (T n)} {c : Nat} {t : List Nat} (g : Gau X (c + 1) R t) {r : Nat} (hr : r < R.length) (hrt : r ∉ t) (hb : bitT (row R r) c = true) : Gau X c (clearT R r c) (t ++ [r]) := by
  have above : ∀ k, c < k → bitT (row R r) k = false := fun k hk => g.un r hr hrt k hk
  have hl : ld (row R r) = c := ld_eq hb above
  have h0 : row R r ≠ 0 := fun e => by rw [e, bitT_zero] at hb; cases hb
  have er : row (clearT R r c) r = row R r := by rw [row_clear R r c hr]; unfold clearF; rw [if_pos rfl]
  have es : ∀ s ∈ t, ld (row (clearT R r c) s) = ld (row R s) ∧ row (clearT R r c) s ≠ 0 := fun s hs => by
    rw [row_clear R r c (g.lt s hs)]
    rcases clear_cases R r c s with e | e
    · rw [e]; exact ⟨rfl, g.ne s hs⟩
    · rw [e]; exact add_low above (by have := g.hig s hs; omega) (g.ne s hs)
  have low : ∀ i, i < R.length → i ≠ r → bitT (row (clearT R r c) i) c = false := fun i hi' hir => by
    rw [row_clear R r c hi']
    unfold clearF
    rw [if_neg hir]
    by_cases h2 : bitT (row R i) c = true
    · rw [if_pos h2, bitT_add, h2, hb]; rfl
    · rw [if_neg h2]; simpa using h2
  have hgh : ∀ i, i < R.length → ∀ k, c < k → bitT (row R i) k = false → bitT (row (clearT R r c) i) k = false := fun i hi' k hk e => by
    rw [row_clear R r c hi']
    rcases clear_cases R r c i with h | h
    · rw [h]; exact e
    · rw [h, bitT_add, e, above k hk]; rfl
  refine ⟨by rw [clear_length]; exact g.len, fun x => ?_, fun s hs => ?_, ?_, fun s hs => ?_, fun s hs => ?_, fun s hs i hi' his => ?_, fun i hi' hit k hk => ?_⟩
  · rw [← g.sp x]
    constructor
    · refine InSp.of fun a ha => ?_
      obtain ⟨i, hi', rfl⟩ := mem_row ha
      rw [clear_length] at hi'
      rw [row_clear R r c hi']
      rcases clear_cases R r c i with e | e
      · rw [e]; exact InSp.mem (row_mem hi')
      · rw [e]; exact (InSp.mem (row_mem hi')).add (InSp.mem (row_mem hr))
    · refine InSp.of fun a ha => ?_
      obtain ⟨i, hi', rfl⟩ := mem_row ha
      have m1 : row (clearT R r c) i ∈ clearT R r c := row_mem (by rw [clear_length]; exact hi')
      have m2 : row (clearT R r c) r ∈ clearT R r c := row_mem (by rw [clear_length]; exact hr)
      have e1 := row_clear R r c hi'
      rcases clear_cases R r c i with e | e
      · rw [← e, ← e1]; exact InSp.mem m1
      · have : row R i = row (clearT R r c) i + row (clearT R r c) r := by rw [e1, e, er, add_assoc, add_self, add_zero]
        rw [this]; exact (InSp.mem m1).add (InSp.mem m2)
  · rw [clear_length]
    rcases List.mem_append.1 hs with h | h
    · exact g.lt s h
    · rw [List.mem_singleton.1 h]; exact hr
  · rw [List.pairwise_append]
    refine ⟨?_, List.pairwise_singleton _ _, fun a ha b hb' => ?_⟩
    · refine g.fall.imp_of_mem fun {a b} ha hb' h => ?_
      rw [(es a ha).1, (es b hb').1]; exact h
    · rw [List.mem_singleton.1 hb', er, hl, (es a ha).1]
      have := g.hig a ha; omega
  · rcases List.mem_append.1 hs with h | h
    · exact (es s h).2
    · rw [List.mem_singleton.1 h, er]; exact h0
  · rcases List.mem_append.1 hs with h | h
    · rw [(es s h).1]; have := g.hig s h; omega
    · rw [List.mem_singleton.1 h, er, hl]; exact Nat.le_refl _
  · rw [clear_length] at hi'
    rcases List.mem_append.1 hs with h | h
    · rw [(es s h).1]
      exact hgh i hi' _ (by have := g.hig s h; omega) (g.own s h i hi' his)
    · have e := List.mem_singleton.1 h
      subst e
      rw [er, hl]
      exact low i hi' his
  · rw [clear_length] at hi'
    have h1 : i ∉ t := fun h => hit (List.mem_append_left _ h)
    have h2 : i ≠ r := fun h => hit (List.mem_append_right _ (by rw [h]; exact List.mem_singleton.2 rfl))
    by_cases e : k = c
    · rw [e]; exact low i hi' h2
    · exact hgh i hi' k (by omega) (g.un i hi' h1 k (by omega))
theorem Gau.done {X R : List (T n)} {t : List Nat} (g : Gau X 0 R t) : t.map (row R) = basT X := by
  refine Red.uniq ⟨fun x hx => ?_, ?_, fun x hx y hy hxy => ?_⟩ (bas_red X) fun x => ?_
  · obtain ⟨r, hr, rfl⟩ := List.mem_map.1 hx
    exact g.ne r hr
  · rw [List.pairwise_map]; exact g.fall
  · obtain ⟨r, hr, rfl⟩ := List.mem_map.1 hx
    obtain ⟨s, hs, rfl⟩ := List.mem_map.1 hy
    exact g.own r hr s (g.lt s hs) (fun e => hxy (by rw [e]))
  · rw [bas_sp, ← g.sp x]
    constructor
    · refine InSp.of fun a ha => ?_
      obtain ⟨r, hr, rfl⟩ := List.mem_map.1 ha
      exact InSp.mem (row_mem (g.lt r hr))
    · refine InSp.of fun a ha => ?_
      obtain ⟨i, hi', rfl⟩ := mem_row ha
      by_cases h : i ∈ t
      · exact InSp.mem (List.mem_map.2 ⟨i, h, rfl⟩)
      · have : row R i = 0 := bitT_ext fun k => by rw [g.un i hi' h k (Nat.zero_le k), bitT_zero]
        rw [this]; exact InSp.zero _
end
end Go.Proofs.Ytfmjodlcjaflfaa.V.B.Tw
namespace Go.Proofs.Ytfmjodlcjaflfaa.V.B.Tw
set_option linter.unusedVariables false
set_option linter.unusedSimpArgs false
section
variable {n : Nat} (b : Nat → T n)
/-- W(k) at x, one out of the other. -/
def W : Nat → T n → T n
  | 0, x => x
  | k + 1, x => W k x * (W k x + W k (b k))
theorem W_zero : ∀ k, W b k 0 = 0
  | 0 => rfl
  | k + 1 => by rw [W, W_zero k, zero_mul]
theorem W_add : ∀ k (x y : T n), W b k (x + y) = W b k x + W b k y
  | 0, x, y => rfl
  | k + 1, x, y => by
    rw [W, W_add k x y, W, W]
    generalize W b k x = p
    generalize W b k y = q
    generalize W b k (b k) = t
    rw [mul_add, add_sq, mul_add, mul_add, add_mul]
    simp only [add_assoc, add_left_comm]
/-- The points. -/
def pts : Nat → List (T n)
  | 0 => [0]
  | m + 1 => pts m ++ (pts m).map (· + b m)
theorem pts_length : ∀ m, (pts b m).length = 2 ^ m
  | 0 => rfl
  | m + 1 => by rw [pts, List.length_append, List.length_map, pts_length m, Nat.pow_succ, Nat.mul_two]
/-- A product over a list. -/
def prL (f : T n → T n) : List (T n) → T n
  | [] => 1
  | a :: l => f a * prL f l
theorem prL_append (f : T n → T n) : ∀ l m, prL f (l ++ m) = prL f l * prL f m
  | [], m => (one_mul _).symm
  | a :: l, m => by rw [List.cons_append, prL, prL, prL_append f l m, mul_assoc]
theorem prL_map (f g : T n → T n) : ∀ l, prL f (l.map g) = prL (fun a => f (g a)) l
  | [] => rfl
  | a :: l => by rw [List.map_cons, prL, prL, prL_map f g l]
theorem prL_congr {f g : T n → T n} : ∀ l, (∀ a ∈ l, f a = g a) → prL f l = prL g l
  | [], _ => rfl
  | a :: l, h => by rw [prL, prL, h a List.mem_cons_self, prL_congr l fun c hc => h c (List.mem_cons_of_mem _ hc)]
theorem prL_zero {f : T n → T n} : ∀ {l : List (T n)}, prL f l = 0 ↔ ∃ a ∈ l, f a = 0
  | [] => ⟨fun h => absurd h (one_ne n), fun ⟨a, ha, _⟩ => by cases ha⟩
  | a :: l => by
    rw [prL]
    constructor
    · intro h
      rcases mul_eq_zero h with g | g
      · exact ⟨a, List.mem_cons_self, g⟩
      · obtain ⟨c, hc, e⟩ := prL_zero.1 g
        exact ⟨c, List.mem_cons_of_mem _ hc, e⟩
    · rintro ⟨c, hc, e⟩
      rcases List.mem_cons.1 hc with rfl | hc
      · rw [e, zero_mul]
      · rw [prL_zero.2 ⟨c, hc, e⟩, mul_zero]
/-- W(m) is the product over its space. -/
theorem W_prod : ∀ m (x : T n), W b m x = prL (fun u => x + u) (pts b m)
  | 0, x => by rw [pts, prL, prL, mul_one, add_zero]; rfl
  | m + 1, x => by
    rw [pts, prL_append, prL_map, ← W_prod m x]
    have e : prL (fun a => x + (a + b m)) (pts b m) = prL (fun u => (x + b m) + u) (pts b m) := prL_congr _ fun a _ => by rw [add_comm a, add_assoc]
    rw [e, ← W_prod m (x + b m), W_add]; rfl
theorem W_root (m : Nat) (x : T n) : W b m x = 0 ↔ x ∈ pts b m := by
  rw [W_prod, prL_zero]
  constructor
  · rintro ⟨a, ha, e⟩
    rw [add_eq_zero e]; exact ha
  · intro h
    exact ⟨x, h, add_self x⟩
theorem inSp_snoc : ∀ (l : List (T n)) (a x : T n), InSp (l ++ [a]) x ↔ InSp l x ∨ InSp l (x + a)
  | [], a, x => by
    show (x = 0 ∨ x + a = 0) ↔ (x = 0 ∨ x + a = 0)
    exact Iff.rfl
  | c :: l, a, x => by
    show (InSp (l ++ [a]) x ∨ InSp (l ++ [a]) (x + c)) ↔ ((InSp l x ∨ InSp l (x + c)) ∨ (InSp l (x + a) ∨ InSp l (x + a + c)))
    rw [inSp_snoc l a x, inSp_snoc l a (x + c)]
    have e : x + c + a = x + a + c := by rw [add_assoc, add_comm c, ← add_assoc]
    rw [e]
    constructor
    · rintro ((h | h) | (h | h))
      · exact .inl (.inl h)
      · exact .inr (.inl h)
      · exact .inl (.inr h)
      · exact .inr (.inr h)
    · rintro ((h | h) | (h | h))
      · exact .inl (.inl h)
      · exact .inr (.inl h)
      · exact .inl (.inr h)
      · exact .inr (.inr h)
theorem mem_pts : ∀ (m : Nat) (x : T n), x ∈ pts b m ↔ InSp ((List.range m).map b) x
  | 0, x => by
    show x ∈ [0] ↔ x = 0
    simp
  | m + 1, x => by
    rw [pts, List.range_succ, List.map_append, List.map_cons, List.map_nil, inSp_snoc, List.mem_append, ← mem_pts m x, ← mem_pts m (x + b m)]
    constructor
    · rintro (h | h)
      · exact .inl h
      · obtain ⟨y, hy, rfl⟩ := List.mem_map.1 h
        right; rw [add_assoc, add_self, add_zero]; exact hy
    · rintro (h | h)
      · exact .inl h
      · exact .inr (List.mem_map.2 ⟨_, h, by rw [add_assoc, add_self, add_zero]⟩)
/-- The point number j. -/
def pt : Nat → Nat → T n
  | 0, _ => 0
  | m + 1, j => pt m j + (if j.testBit m = true then b m else 0)
theorem pt_xor : ∀ (m i k : Nat), pt b m (i ^^^ k) = pt b m i + pt b m k
  | 0, i, k => (add_zero 0).symm
  | m + 1, i, k => by
    rw [pt, pt, pt, pt_xor m i k, Nat.testBit_xor]
    cases i.testBit m <;> cases k.testBit m <;> simp [add_assoc, add_left_comm, add_comm, add_self, add_add_self, add_zero, zero_add]
theorem pt_low : ∀ (m j k : Nat), j % 2 ^ m = k % 2 ^ m → pt b m j = pt b m k
  | 0, _, _, _ => rfl
  | m + 1, j, k, h => by
    have h1 : j % 2 ^ m = k % 2 ^ m := by
      have := congrArg (· % 2 ^ m) h
      simp only [Nat.pow_succ, Nat.mod_mul_right_mod] at this
      exact this
    have h2 : j.testBit m = k.testBit m := by
      have e : ∀ z : Nat, z.testBit m = (z % 2 ^ (m + 1)).testBit m := fun z => by rw [Nat.testBit_mod_two_pow]; simp
      rw [e j, e k, h]
    rw [pt, pt, pt_low m j k h1, h2]
theorem pt_zero : ∀ m, pt b m 0 = 0
  | 0 => rfl
  | m + 1 => by rw [pt, pt_zero m, Nat.zero_testBit]; simp [add_zero]
theorem pt_add (m j : Nat) (h : j < 2 ^ m) : pt b (m + 1) (2 ^ m + j) = pt b m j + b m := by
  rw [pt, Nat.testBit_two_pow_add_eq, Nat.testBit_lt_two_pow h]
  have : pt b m (2 ^ m + j) = pt b m j := pt_low b m _ _ (by rw [Nat.add_mod_left])
  rw [this]; rfl
theorem pt_more (m j : Nat) (h : j < 2 ^ m) : pt b (m + 1) j = pt b m j := by
  rw [pt, Nat.testBit_lt_two_pow h]; simp [add_zero]
theorem pts_get : ∀ (m j : Nat), j < 2 ^ m → (pts b m).getD j 0 = pt b m j
  | 0, j, h => by
    have : j = 0 := by omega
    subst this; rfl
  | m + 1, j, h => by
    rw [Nat.pow_succ] at h
    rw [pts, List.getD_eq_getElem?_getD]
    by_cases c : j < 2 ^ m
    · rw [List.getElem?_append_left (by rw [pts_length]; exact c), ← List.getD_eq_getElem?_getD, pts_get m j c, pt_more b m j c]
    · obtain ⟨k, rfl⟩ := Nat.le.dest (Nat.le_of_not_lt c)
      have hk : k < 2 ^ m := by omega
      rw [List.getElem?_append_right (by rw [pts_length]; omega), pts_length, Nat.add_sub_cancel_left, List.getElem?_map, pt_add b m k hk]
      have := pts_get m k hk
      rw [List.getD_eq_getElem?_getD, List.getElem?_eq_getElem (by rw [pts_length]; exact hk)] at this
      rw [List.getElem?_eq_getElem (by rw [pts_length]; exact hk)]
      show (pts b m)[k]'(by rw [pts_length]; exact hk) + b m = _
      have this : (pts b m)[k]'(by rw [pts_length]; exact hk) = pt b m k := this
      rw [this]
theorem pt_mem (m j : Nat) (h : j < 2 ^ m) : pt b m j ∈ pts b m := by
  rw [← pts_get b m j h, List.getD_eq_getElem?_getD, List.getElem?_eq_getElem (by rw [pts_length]; exact h)]
  exact List.getElem_mem _
/-- The basis elements are new. -/
def New (m : Nat) : Prop := ∀ i, i < m → W b i (b i) ≠ 0
theorem new_iff (m : Nat) : New b m ↔ ∀ i, i < m → ¬ InSp ((List.range i).map b) (b i) := by
  unfold New
  constructor
  · intro h i hi g
    exact h i hi ((W_root b i (b i)).2 ((mem_pts b i (b i)).2 g))
  · intro h i hi g
    exact h i hi ((mem_pts b i (b i)).1 ((W_root b i (b i)).1 g))
theorem W_self (m k : Nat) (h : k < m) : W b m (b k) = 0 := by
  rw [W_root, mem_pts]
  exact InSp.mem (List.mem_map.2 ⟨k, List.mem_range.2 h, rfl⟩)
/-- Unlike numbers, unlike points. -/
theorem pt_inj : ∀ (m : Nat), New b m → ∀ i j, i < 2 ^ m → j < 2 ^ m → pt b m i = pt b m j → i = j
  | 0, _, i, j, hi, hj, _ => by omega
  | m + 1, hN, i, j, hi, hj, h => by
    have hN' : New b m := fun k hk => hN k (by omega)
    have hb := hN m (by omega)
    rw [Nat.pow_succ] at hi hj
    have hW : ∀ k, k < 2 ^ m → W b m (pt b m k) = 0 := fun k hk => (W_root b m _).2 (pt_mem b m k hk)
    by_cases c1 : i < 2 ^ m <;> by_cases c2 : j < 2 ^ m
    · rw [pt_more b m i c1, pt_more b m j c2] at h
      exact pt_inj m hN' i j c1 c2 h
    · obtain ⟨k, rfl⟩ := Nat.le.dest (Nat.le_of_not_lt c2)
      have hk : k < 2 ^ m := by omega
      rw [pt_more b m i c1, pt_add b m k hk] at h
      have := congrArg (W b m) h
      rw [W_add, hW i c1, hW k hk, zero_add] at this
      exact absurd this.symm hb
    · obtain ⟨k, rfl⟩ := Nat.le.dest (Nat.le_of_not_lt c1)
      have hk : k < 2 ^ m := by omega
      rw [pt_more b m j c2, pt_add b m k hk] at h
      have := congrArg (W b m) h
      rw [W_add, hW j c2, hW k hk, zero_add] at this
      exact absurd this hb
    · obtain ⟨k, rfl⟩ := Nat.le.dest (Nat.le_of_not_lt c1)
      obtain ⟨k', rfl⟩ := Nat.le.dest (Nat.le_of_not_lt c2)
      have hk : k < 2 ^ m := by omega
      have hk' : k' < 2 ^ m := by omega
      rw [pt_add b m k hk, pt_add b m k' hk', add_comm _ (b m), add_comm _ (b m)] at h
      rw [pt_inj m hN' k k' hk hk' (add_cancel_left h)]
/-- Normal. -/
def Nm (i : Nat) (x : T n) : T n := W b i x * invT (W b i (b i))
theorem Nm_add (i : Nat) (x y : T n) : Nm b i (x + y) = Nm b i x + Nm b i y := by unfold Nm; rw [W_add, add_mul]
theorem Nm_one {m i : Nat} (h : New b m) (hi : i < m) : Nm b i (b i) = 1 := mul_invT (h i hi)
theorem Nm_self {i k : Nat} (h : k < i) : Nm b i (b k) = 0 := by unfold Nm; rw [W_self b i k h, zero_mul]
theorem Nm_zero (i : Nat) : Nm b i 0 = 0 := by unfold Nm; rw [W_zero, zero_mul]
theorem Nm_low (i : Nat) {j : Nat} (h : j < 2 ^ i) : Nm b i (pt b i j) = 0 := by
  unfold Nm; rw [(W_root b i _).2 (pt_mem b i j h), zero_mul]
/-- The coefficients of W(k). -/
def co : Nat → Nat → T n
  | 0, j => if j = 0 then 1 else 0
  | k + 1, j => (match j with | 0 => 0 | j + 1 => co k j * co k j) + co k j * W b k (b k)
def lowSq (f : Nat → T n) : Nat → T n
  | 0 => 0
  | j + 1 => f j * f j
theorem co_succ (k j : Nat) : co b (k + 1) j = lowSq (co b k) j + co b k j * W b k (b k) := by cases j <;> rfl
theorem co_high : ∀ k j, k < j → co b k j = 0
  | 0, j, h => by rw [co, if_neg (by omega)]
  | k + 1, 0, h => by omega
  | k + 1, j + 1, h => by rw [co, co_high k j (by omega), co_high k (j + 1) (by omega), zero_mul, zero_mul, add_zero]
theorem co_top : ∀ k, co b k k = 1
  | 0 => by rw [co, if_pos rfl]
  | k + 1 => by rw [co, co_top k, co_high b k (k + 1) (by omega), zero_mul, one_mul, add_zero]
/-- A sum. -/
def smT (f : Nat → T n) : Nat → T n
  | 0 => 0
  | m + 1 => smT f m + f m
theorem smT_congr {f g : Nat → T n} : ∀ m, (∀ i, i < m → f i = g i) → smT f m = smT g m
  | 0, _ => rfl
  | m + 1, h => by rw [smT, smT, smT_congr m (fun i hi => h i (by omega)), h m (by omega)]
theorem smT_add (f g : Nat → T n) : ∀ m, smT (fun i => f i + g i) m = smT f m + smT g m
  | 0 => (add_zero _).symm
  | m + 1 => by rw [smT, smT, smT, smT_add f g m]; simp only [add_assoc, add_left_comm]
theorem smT_mul (c : T n) (f : Nat → T n) : ∀ m, smT (fun i => f i * c) m = smT f m * c
  | 0 => (zero_mul _).symm
  | m + 1 => by rw [smT, smT, smT_mul c f m, add_mul]
theorem smT_head (f : Nat → T n) : ∀ m, smT f (m + 1) = f 0 + smT (fun i => f (i + 1)) m
  | 0 => by rw [smT, smT, smT, zero_add, add_zero]
  | m + 1 => by rw [smT, smT_head f m, smT, add_assoc]
theorem smT_sq (f : Nat → T n) : ∀ m, smT f m * smT f m = smT (fun i => f i * f i) m
  | 0 => zero_mul _
  | m + 1 => by rw [smT, add_sq, smT_sq f m]; rfl
/-- W(k) is a sum of powers of powers of 2. -/
theorem W_co : ∀ k (x : T n), W b k x = smT (fun j => co b k j * sqn j x) (k + 1)
  | 0, x => by
    show x = 0 + co b 0 0 * x
    rw [co_top, one_mul, zero_add]
  | k + 1, x => by
    have ih := W_co k x
    have e1 : smT (fun j => co b (k + 1) j * sqn j x) (k + 2) = smT (fun j => lowSq (co b k) j * sqn j x) (k + 2) + smT (fun j => co b k j * sqn j x * W b k (b k)) (k + 2) := by
      rw [← smT_add]
      apply smT_congr
      intro j _
      rw [co_succ, add_mul]
      congr 1
      rw [mul_assoc, mul_comm (W b k (b k)), mul_assoc]
    have e2 : smT (fun j => lowSq (co b k) j * sqn j x) (k + 2) = W b k x * W b k x := by
      have h0 : lowSq (co b k) 0 * sqn 0 x = 0 := zero_mul _
      rw [smT_head, h0, zero_add, ih, smT_sq]
      apply smT_congr
      intro j _
      show co b k j * co b k j * (sqn j x * sqn j x) = co b k j * sqn j x * (co b k j * sqn j x)
      simp only [mul_assoc, mul_left_comm]
    have e3 : smT (fun j => co b k j * sqn j x * W b k (b k)) (k + 2) = W b k x * W b k (b k) := by
      rw [smT_mul, smT, co_high b k (k + 1) (by omega), zero_mul, add_zero, ih]
    rw [e1, e2, e3, W, mul_add]
end
end Go.Proofs.Ytfmjodlcjaflfaa.V.B.Tw
namespace Go.Proofs.Ytfmjodlcjaflfaa.V.B.Tw
set_option linter.unusedVariables false
set_option linter.unusedSimpArgs false
section
variable {n : Nat}
/-- The sum of the rows that v takes. -/
def cm (X : List (T n)) (v : Nat → Bool) : Nat → T n
  | 0 => 0
  | k + 1 => cm X v k + (if v k = true then row X k else 0)
theorem cm_congr (X : List (T n)) {v w : Nat → Bool} : ∀ k, (∀ i, i < k → v i = w i) → cm X v k = cm X w k
  | 0, _ => rfl
  | k + 1, h => by rw [cm, cm, cm_congr X k fun i hi => h i (by omega), h k (by omega)]
theorem cm_xor (X : List (T n)) (v w : Nat → Bool) : ∀ k, cm X (fun i => v i ^^ w i) k = cm X v k + cm X w k
  | 0 => (add_zero 0).symm
  | k + 1 => by
    rw [cm, cm, cm, cm_xor X v w k]
    cases v k <;> cases w k <;> simp [add_assoc, add_left_comm, add_comm, add_self, add_add_self, add_zero, zero_add]
theorem cm_none (X : List (T n)) : ∀ k, cm X (fun _ => false) k = 0
  | 0 => rfl
  | k + 1 => by rw [cm, cm_none X k, if_neg Bool.false_ne_true, add_zero]
theorem cm_one (X : List (T n)) (i : Nat) : ∀ k, cm X (fun j => decide (j = i)) k = if i < k then row X i else 0
  | 0 => rfl
  | k + 1 => by
    rw [cm, cm_one X i k]
    by_cases c : k = i
    · subst c; rw [if_neg (Nat.lt_irrefl k), decide_eq_true rfl, if_pos rfl, if_pos (Nat.lt_succ_self k), zero_add]
    · rw [decide_eq_false c, if_neg Bool.false_ne_true, add_zero]
      by_cases d : i < k
      · rw [if_pos d, if_pos (by omega)]
      · rw [if_neg d, if_neg (by omega)]
theorem take_row (X : List (T n)) {k : Nat} (h : k < X.length) : X.take (k + 1) = X.take k ++ [row X k] := by
  unfold row
  rw [List.take_succ_eq_append_getElem h, List.getD_eq_getElem?_getD, List.getElem?_eq_getElem h]; rfl
theorem cm_sp (X : List (T n)) (v : Nat → Bool) : ∀ k, k ≤ X.length → InSp (X.take k) (cm X v k)
  | 0, _ => InSp.zero _
  | k + 1, h => by
    rw [take_row X h, cm]
    refine (cm_sp X v k (by omega)).append_left.add ?_
    by_cases c : v k = true
    · rw [if_pos c]; exact InSp.mem (List.mem_append_right _ (List.mem_singleton.2 rfl))
    · rw [if_neg c]; exact InSp.zero _
/-- A new row. -/
def Piv (X : List (T n)) (i : Nat) : Prop := ¬ InSp (X.take i) (row X i)
theorem cm_uniq (X : List (T n)) {v w : Nat → Bool} : ∀ k, k ≤ X.length → (∀ i, i < k → v i = true → Piv X i) → (∀ i, i < k → w i = true → Piv X i) → cm X v k = cm X w k → ∀ i, i < k → v i = w i
  | 0, _, _, _, _, i, hi => absurd hi (Nat.not_lt_zero i)
  | k + 1, hk, hv, hw, h, i, hi => by
    have hv' : ∀ i, i < k → v i = true → Piv X i := fun i hi => hv i (by omega)
    have hw' : ∀ i, i < k → w i = true → Piv X i := fun i hi => hw i (by omega)
    have sp : InSp (X.take k) (cm X v k + cm X w k) := (cm_sp X v k (by omega)).add (cm_sp X w k (by omega))
    rw [cm, cm] at h
    have e : v k = w k := by
      cases hvk : v k <;> cases hwk : w k
      · rfl
      · exfalso
        rw [hvk, hwk, if_neg Bool.false_ne_true, if_pos rfl, add_zero] at h
        refine hw k (by omega) hwk ?_
        have : row X k = cm X v k + cm X w k := by rw [h, add_comm (cm X w k), add_assoc, add_self, add_zero]
        rw [this]; exact sp
      · exfalso
        rw [hvk, hwk, if_neg Bool.false_ne_true, if_pos rfl, add_zero] at h
        refine hv k (by omega) hvk ?_
        have : row X k = cm X v k + cm X w k := by rw [← h, ← add_assoc, add_self, zero_add]
        rw [this]; exact sp
      · rfl
    rw [e] at h
    have h2 : cm X v k = cm X w k := by
      have := congrArg (· + (if w k = true then row X k else 0)) h
      simp only [add_assoc, add_self, add_zero] at this
      exact this
    by_cases c : i = k
    · rw [c]; exact e
    · exact cm_uniq X k (by omega) hv' hw' h2 i (by omega)
/-- A row has no bit where an earlier one leads. -/
def Tri (R : List (T n)) : Prop := (R.Pairwise fun a b => bitT b (ld a) = false) ∧ ∀ a ∈ R, a ≠ 0
theorem Tri.tail {a : T n} {R : List (T n)} (h : Tri (a :: R)) : Tri R := ⟨(List.pairwise_cons.1 h.1).2, fun x hx => h.2 x (List.mem_cons_of_mem _ hx)⟩
theorem Tri.zero : ∀ {R : List (T n)}, Tri R → ∀ {y : T n}, InSp R y → (∀ b ∈ R, bitT y (ld b) = false) → y = 0
  | [], _, y, h, _ => h
  | a :: R, hR, y, h, hb => by
    have ha := hb a List.mem_cons_self
    rcases h with h | h
    · exact hR.tail.zero h fun b hb' => hb b (List.mem_cons_of_mem _ hb')
    · have h1 : bitT (y + a) (ld a) = false := inSp_bit (fun b hb' => (List.pairwise_cons.1 hR.1).1 b hb') h
      rw [bitT_add, ha, ld_bit (hR.2 a List.mem_cons_self)] at h1
      cases h1
theorem Tri.bit : ∀ {R : List (T n)}, Tri R → ∀ (x : T n), ∀ b ∈ R, bitT (lessT R x) (ld b) = false
  | a :: R, hR, x, b, hb => by
    rw [lessT]
    rcases List.mem_cons.1 hb with rfl | hb
    · rw [less_keep R _ _ fun c hc => (List.pairwise_cons.1 hR.1).1 c hc]
      by_cases c : bitT x (ld b) = true
      · rw [if_pos c, bitT_add, c, ld_bit (hR.2 b List.mem_cons_self)]; rfl
      · rw [if_neg c]; simpa using c
    · exact hR.tail.bit _ b hb
theorem Tri.less {R : List (T n)} (hR : Tri R) (x : T n) : lessT R x = 0 ↔ InSp R x := by
  constructor
  · intro h
    have := less_sp R x
    rwa [h, zero_add] at this
  · intro h
    refine hR.zero ?_ (hR.bit x)
    have := (less_sp R x).add h
    rwa [add_assoc, add_self, add_zero] at this
/-- The places of v and w put together. -/
def flipV (v w : List Bool) : List Bool := (List.range v.length).map fun j => v.getD j false ^^ w.getD j false
theorem flip_length (v w : List Bool) : (flipV v w).length = v.length := by unfold flipV; rw [List.length_map, List.length_range]
theorem flip_get (v w : List Bool) {j : Nat} (h : j < v.length) : (flipV v w).getD j false = (v.getD j false ^^ w.getD j false) := by
  unfold flipV
  rw [List.getD_eq_getElem?_getD, List.getElem?_map, List.getElem?_range h]; rfl
def vf (v : List Bool) : Nat → Bool := fun i => v.getD i false
theorem vf_out {v : List Bool} {j : Nat} (h : v.length ≤ j) : vf v j = false := by
  unfold vf; rw [List.getD_eq_getElem?_getD, List.getElem?_eq_none h]; rfl
/-- Rows and how they came. -/
def redV : List (T n × List Bool) → T n × List Bool → T n × List Bool
  | [], p => p
  | a :: K, p => redV K (if bitT p.1 (ld a.1) = true then (p.1 + a.1, flipV p.2 a.2) else p)
theorem redV_nil (p : T n × List Bool) : redV [] p = p := rfl
theorem redV_cons (a : T n × List Bool) (K : List (T n × List Bool)) (p : T n × List Bool) : redV (a :: K) p = redV K (if bitT p.1 (ld a.1) = true then (p.1 + a.1, flipV p.2 a.2) else p) := rfl
theorem red_fst : ∀ (K : List (T n × List Bool)) (p : T n × List Bool), (redV K p).1 = lessT (K.map (·.1)) p.1
  | [], p => rfl
  | a :: K, p => by
    rw [redV, red_fst K, List.map_cons, lessT]
    by_cases c : bitT p.1 (ld a.1) = true
    · rw [if_pos c, if_pos c]
    · rw [if_neg c, if_neg c]
/-- Rows with their ways, over the new rows below i. -/
structure Ways (X : List (T n)) (i : Nat) (K : List (T n × List Bool)) : Prop where
  tri : Tri (K.map (·.1))
  len : ∀ a ∈ K, a.2.length = X.length
  sup : ∀ a ∈ K, ∀ j, vf a.2 j = true → j < i ∧ Piv X j
  val : ∀ a ∈ K, cm X (vf a.2) X.length = a.1
  sp : ∀ x, InSp (K.map (·.1)) x ↔ InSp (X.take i) x
theorem red_ways (X : List (T n)) : ∀ (K : List (T n × List Bool)), (∀ a ∈ K, a.2.length = X.length) → (∀ a ∈ K, cm X (vf a.2) X.length = a.1) → ∀ (P : Nat → Prop), (∀ a ∈ K, ∀ j, vf a.2 j = true → P j) → ∀ p : T n × List Bool, p.2.length = X.length → (∀ j, vf p.2 j = true → P j) →
    (redV K p).2.length = X.length ∧ (∀ j, vf (redV K p).2 j = true → P j) ∧ (redV K p).1 + cm X (vf (redV K p).2) X.length = p.1 + cm X (vf p.2) X.length
  | [], _, _, P, _, p, h1, h2 => ⟨h1, h2, rfl⟩
  | a :: K, hl, hv, P, hs, p, h1, h2 => by
    have ih := red_ways X K (fun b hb => hl b (List.mem_cons_of_mem _ hb)) (fun b hb => hv b (List.mem_cons_of_mem _ hb)) P (fun b hb => hs b (List.mem_cons_of_mem _ hb))
    rw [redV]
    by_cases c : bitT p.1 (ld a.1) = true
    · rw [if_pos c]
      have fl : (flipV p.2 a.2).length = X.length := by rw [flip_length, h1]
      have fs : ∀ j, vf (flipV p.2 a.2) j = true → P j := fun j hj => by
        by_cases d : j < p.2.length
        · have e : vf (flipV p.2 a.2) j = (vf p.2 j ^^ vf a.2 j) := flip_get p.2 a.2 d
          rw [e] at hj
          cases g : vf p.2 j with
          | true => exact h2 j g
          | false =>
            rw [g, Bool.false_xor] at hj
            exact hs a List.mem_cons_self j hj
        · rw [vf_out (by rw [flip_length]; omega)] at hj; cases hj
      obtain ⟨r1, r2, r3⟩ := ih (p.1 + a.1, flipV p.2 a.2) fl fs
      refine ⟨r1, r2, r3.trans ?_⟩
      show p.1 + a.1 + cm X (vf (flipV p.2 a.2)) X.length = _
      have e : cm X (vf (flipV p.2 a.2)) X.length = cm X (vf p.2) X.length + a.1 := by
        rw [← hv a List.mem_cons_self, ← cm_xor]
        exact cm_congr X _ fun j hj => flip_get p.2 a.2 (by omega)
      rw [e]
      simp only [add_assoc, add_left_comm, add_comm, add_self, add_add_self, add_zero, zero_add]
    · rw [if_neg c]
      exact ih p h1 h2
theorem Ways.start (X : List (T n)) : Ways X 0 [] where
  tri := ⟨.nil, fun a ha => absurd ha List.not_mem_nil⟩
  len := fun a ha => absurd ha List.not_mem_nil
  sup := fun a ha => absurd ha List.not_mem_nil
  val := fun a ha => absurd ha List.not_mem_nil
  sp := fun x => Iff.rfl
def unitV (m i : Nat) : List Bool := (List.replicate m false).set i true
theorem unit_length (m i : Nat) : (unitV m i).length = m := by unfold unitV; rw [List.length_set, List.length_replicate]
theorem vf_unit {m i : Nat} (h : i < m) (j : Nat) : vf (unitV m i) j = decide (j = i) := by
  unfold vf unitV
  rw [List.getD_eq_getElem?_getD, List.getElem?_set]
  by_cases c : i = j
  · subst c; simp [h]
  · rw [if_neg c, List.getElem?_replicate, decide_eq_false fun e => c e.symm]
    by_cases d : j < m
    · rw [if_pos d]; rfl
    · rw [if_neg d]; rfl
theorem Ways.step {X : List (T n)} {i : Nat} {K : List (T n × List Bool)} (w : Ways X i K) (h : i < X.length) :
    Ways X (i + 1) (if (redV K (row X i, unitV X.length i)).1 = 0 then K else K ++ [redV K (row X i, unitV X.length i)]) := by
  have hz : (redV K (row X i, unitV X.length i)).1 = 0 ↔ InSp (X.take i) (row X i) := by rw [red_fst, w.tri.less, w.sp]
  by_cases c : (redV K (row X i, unitV X.length i)).1 = 0
  · rw [if_pos c]
    refine ⟨w.tri, w.len, fun a ha j hj => ⟨by have := (w.sup a ha j hj).1; omega, (w.sup a ha j hj).2⟩, w.val, fun x => ?_⟩
    rw [w.sp, take_row X h, inSp_snoc]
    refine ⟨.inl, fun hx => hx.elim id fun hx => ?_⟩
    have := hx.add (hz.1 c)
    rwa [add_assoc, add_self, add_zero] at this
  · rw [if_neg c]
    have hp : Piv X i := fun g => c (hz.2 g)
    obtain ⟨r1, r2, r3⟩ := red_ways X K w.len w.val (fun j => j < i + 1 ∧ Piv X j) (fun a ha j hj => ⟨by have := (w.sup a ha j hj).1; omega, (w.sup a ha j hj).2⟩) (row X i, unitV X.length i) (unit_length _ _) fun j hj => by
      rw [vf_unit h, decide_eq_true_eq] at hj
      subst hj; exact ⟨Nat.lt_succ_self _, hp⟩
    have r4 : (redV K (row X i, unitV X.length i)).1 + cm X (vf (redV K (row X i, unitV X.length i)).2) X.length = 0 := by
      rw [r3]
      show row X i + cm X (vf (unitV X.length i)) X.length = 0
      rw [cm_congr X X.length fun j _ => vf_unit h j, cm_one, if_pos h, add_self]
    generalize hr : redV K (row X i, unitV X.length i) = q at r1 r2 r4 c ⊢
    have hq : q.1 = lessT (K.map (·.1)) (row X i) := by rw [← hr, red_fst]
    have mem : ∀ {a : T n × List Bool}, a ∈ K ++ [q] → a ∈ K ∨ a = q := fun ha => (List.mem_append.1 ha).imp id List.mem_singleton.1
    refine ⟨⟨?_, ?_⟩, fun a ha => ?_, fun a ha => ?_, fun a ha => ?_, fun x => ?_⟩
    · rw [List.map_append, List.pairwise_append]
      refine ⟨w.tri.1, List.pairwise_singleton _ _, fun a ha b hb => ?_⟩
      have hb : b = q.1 := List.mem_singleton.1 hb
      rw [hb, hq]
      exact w.tri.bit _ a ha
    · intro a ha
      obtain ⟨b, hb, rfl⟩ := List.mem_map.1 ha
      rcases mem hb with hb | rfl
      · exact w.tri.2 _ (List.mem_map.2 ⟨b, hb, rfl⟩)
      · exact c
    · rcases mem ha with hb | rfl
      · exact w.len a hb
      · exact r1
    · rcases mem ha with hb | rfl
      · exact fun j hj => ⟨by have := (w.sup a hb j hj).1; omega, (w.sup a hb j hj).2⟩
      · exact r2
    · rcases mem ha with hb | rfl
      · exact w.val a hb
      · exact (add_eq_zero r4).symm
    · rw [List.map_append, List.map_cons, List.map_nil, inSp_snoc, take_row X h, inSp_snoc, w.sp, w.sp]
      have hs := (w.sp _).1 (less_sp (K.map (·.1)) (row X i))
      rw [← hq] at hs
      have e : InSp (X.take i) (x + q.1) ↔ InSp (X.take i) (x + row X i) := by
        constructor
        · intro g
          have := g.add hs
          have e2 : x + q.1 + (q.1 + row X i) = x + row X i := by simp only [add_assoc, add_add_self]
          rwa [e2] at this
        · intro g
          have := g.add hs
          have e2 : x + row X i + (q.1 + row X i) = x + q.1 := by rw [add_comm q.1, add_assoc, add_add_self]
          rwa [e2] at this
      rw [e]
/-- The answer. -/
theorem Ways.answer {X : List (T n)} {K : List (T n × List Bool)} (w : Ways X X.length K) (t : T n) :
    ((redV K (t, List.replicate X.length false)).1 = 0 ↔ InSp X t) ∧ (redV K (t, List.replicate X.length false)).2.length = X.length ∧ (∀ j, vf (redV K (t, List.replicate X.length false)).2 j = true → Piv X j) ∧ (redV K (t, List.replicate X.length false)).1 + cm X (vf (redV K (t, List.replicate X.length false)).2) X.length = t := by
  have vz : ∀ j, vf (List.replicate X.length false) j = false := fun j => by
    unfold vf
    rw [List.getD_eq_getElem?_getD, List.getElem?_replicate]
    by_cases d : j < X.length
    · rw [if_pos d]; rfl
    · rw [if_neg d]; rfl
  obtain ⟨r1, r2, r3⟩ := red_ways X K w.len w.val (fun j => Piv X j) (fun a ha j hj => (w.sup a ha j hj).2) (t, List.replicate X.length false) List.length_replicate fun j hj => by rw [vz j] at hj; cases hj
  refine ⟨?_, r1, r2, r3.trans ?_⟩
  · rw [red_fst, w.tri.less, w.sp, List.take_of_length_le (Nat.le_refl _)]
  · show t + cm X (vf (List.replicate X.length false)) X.length = t
    rw [cm_congr X X.length fun j _ => vz j, cm_none, add_zero]
end
end Go.Proofs.Ytfmjodlcjaflfaa.V.B.Tw
namespace Go.Proofs.Ytfmjodlcjaflfaa.V.B
open Go.ChangeShapes Go.WideShapes Go.ChangeAt Go.RowKit Go.Deep
set_option linter.unusedVariables false
set_option linter.unusedSimpArgs false
def goodT (E : Env) (G : (n : Nat) → E.S n → Prop) : (t : Ty) → den E.toTys t → Prop
  | .int k, n => (Lit.int k n).wf = true
  | .bool, _ => True
  | .slice t, l => (∀ x ∈ (l : List (den E.toTys t)), goodT E G t x) ∧ List.length l ≤ maxLen
  | .ptr t, o => match o with
    | none => True
    | some x => goodT E G t x
  | .st n, x => G n x
  | .arr n t, l => List.length l = n ∧ ∀ x ∈ (l : List (den E.toTys t)), goodT E G t x
  | .ext _ _, _ => True
  | .fnv _, _ => True
  | .em, _ => True
def goodL {T : Tys} (Q : (t : Ty) → den T t → Prop) : (ts : List Ty) → HL T ts → Prop
  | [], _ => True
  | [t], x => Q t x.1
  | t :: u :: ts, x => Q t x.1 ∧ goodL Q (u :: ts) x.2
def goodS (E : Env) : Nat → (n : Nat) → E.S n → Prop
  | 0, _, _ => True
  | d + 1, n, x => goodL (goodT E (goodS E d)) (E.fs n) (E.to n x)
/-- Numbers in range, lists of a length that there is. -/
def good (E : Env) (d : Nat) (t : Ty) (x : den E.toTys t) : Prop := goodT E (goodS E d) t x
theorem goodL_cons {T : Tys} {Q : (t : Ty) → den T t → Prop} {t : Ty} {ts : List Ty} {x : HL T (t :: ts)} : goodL Q (t :: ts) x ↔ Q t x.1 ∧ goodL Q ts x.2 := by
  cases ts with
  | nil => exact ⟨fun h => ⟨h, trivial⟩, fun h => h.1⟩
  | cons u ts => exact Iff.rfl
def flatTys (E : Env) : Ty → List Ty
  | .st n => E.fs n
  | t => [t]
def pre : List Ty → List Ty → Option (List Ty)
  | [], l => some l
  | t :: ts, u :: us => if t = u then pre ts us else none
  | _, _ => none
theorem pre_some : ∀ {a b c : List Ty}, pre a b = some c → b = a ++ c
  | [], b, c, h => by cases h; rfl
  | t :: ts, u :: us, c, h => by
    simp only [pre] at h
    split at h
    · rename_i e
      rw [e, pre_some h]; rfl
    · cases h
  | _ :: _, [], _, h => by cases h
def isArr1 : Ty → Bool
  | .arr _ _ => true
  | .ext _ _ => true
  | .fnv _ => true
  | .em => true
  | .slice t => isArr1 t
  | .ptr _ => true
  | _ => false
/-- .. an argument may be an array, too. -/
def isArrA : Ty → Bool
  | .arr _ t => isArr1 t
  | t => isArr1 t
def chkFl (E : Env) (P : Program) (tb : Tab) : List Field → Nat → List Ty → Bool
  | [], _, [] => true
  | f :: fs, off, ts => Nat.beq f.offset off && match lk f.type tb.tys with
    | some ty => !isArr1 ty && match pre (flatTys E ty) ts with
      | some r => chkFl E P tb fs (off + len (flatTys E ty)) r
      | none => false
    | none => false
  | _, _, _ => false
def chkSt (E : Env) (P : Program) (tb : Tab) : List (Nat × Ty) → Bool
  | [] => true
  | (t, .st n) :: r => (match P.underlying t with
    | some (.struct fs) => chkFl E P tb fs.toList 0 (E.fs n)
    | _ => false) && chkSt E P tb r
  | _ :: r => chkSt E P tb r
section
variable {E : Env} {P : Program} {tb : Tab}
theorem chkSt_spec {t n : Nat} : ∀ {l : List (Nat × Ty)}, chkSt E P tb l = true → lk t l = some (.st n) → ∃ fs, P.underlying t = some (.struct fs) ∧ chkFl E P tb fs.toList 0 (E.fs n) = true
  | [], _, h => by cases h
  | (u, ty) :: l, h1, h => by
    simp only [lk] at h
    split at h
    · rename_i e
      cases h
      have e := Nat.eq_of_beq_eq_true e
      subst e
      simp only [chkSt, Bool.and_eq_true] at h1
      have h1 := h1.1
      split at h1
      · exact ⟨_, by assumption, h1⟩
      · cases h1
    · refine chkSt_spec ?_ h
      cases ty <;> first | exact h1 | (simp only [chkSt, Bool.and_eq_true] at h1; exact h1.2)
theorem rvl_app {w : World} {ok : Nat → Prop} {X : XRep E} : ∀ {ts us : List Ty} {x : HL E.toTys ts} {y : HL E.toTys us} {cs ds : List Value}, RVL (Rep X w ok) ts x cs → RVL (Rep X w ok) us y ds → (∀ d, goodL (good E d) ts x) → (∀ d, goodL (good E d) us y) →
    ∃ z : HL E.toTys (ts ++ us), RVL (Rep X w ok) (ts ++ us) z (cs ++ ds) ∧ ∀ d, goodL (good E d) (ts ++ us) z
  | [], us, x, y, cs, ds, h1, h2, g1, g2 => by cases h1; exact ⟨y, h2, g2⟩
  | t :: ts, us, x, y, cs, ds, ⟨v, r, e, a1, a2, a3⟩, h2, g1, g2 => by
    obtain ⟨z, z1, z2⟩ := rvl_app a3 h2 (fun d => (goodL_cons.1 (g1 d)).2) g2
    subst e
    exact ⟨(x.1, z), ⟨v, r ++ ds, rfl, a1, a2, z1⟩, fun d => goodL_cons.2 ⟨(goodL_cons.1 (g1 d)).1, z2 d⟩⟩
variable (hT : ∀ calls, Tie (E := E) (XR E) P (tb.ctx calls)) (hS : chkSt E P tb tb.tys = true)
include hT hS
theorem reads {H : Type} {enc : TypeId × Value → H} {w : World} {base : Nat} {spare : Nat → Bool} {held : Bool} : ∀ (fuel : Nat) {t : Nat} {ty : Ty} {cs : List Value} {x : DataW H × List MemPlace}, lk t tb.tys = some ty → isArr1 ty = false → DataW.trod enc P w base spare held fuel t cs = some x →
    ∃ a : den E.toTys ty, Rep (XR E) w (fun b => b < w.heap.size) ty a cs ∧ ∀ d, good E d ty a := by
  have T := hT (fun _ => none)
  intro fuel
  induction fuel with
  | zero => intro t ty cs x ht hty h; simp [DataW.trod] at h
  | succ fuel ih =>
    intro t ty cs x ht hty h
    obtain ⟨d, hd1, hd2⟩ := T.desc t ty ht
    have cell : ∀ {e : Nat} {u : Ty}, lk e tb.tys = some u → P.cellsOf e = sz E u := by
      intro e u he
      obtain ⟨i, z, h1, _, h3, _⟩ := T.info e u he
      simp [Program.cellsOf, h1, h3]
    cases ty with
    | int k =>
      cases d <;> simp only at hd2
      subst hd2
      obtain ⟨n, rfl, _, hw⟩ := DataW.trod_int hd1 h
      exact ⟨n, Rep.int.2 rfl, fun d => hw⟩
    | bool =>
      cases d <;> simp only at hd2
      obtain ⟨n, rfl, _⟩ := DataW.trod_bool hd1 h
      exact ⟨n, Rep.bool.2 rfl, fun d => trivial⟩
    | slice u =>
      cases d <;> simp only at hd2
      rename_i e
      obtain ⟨he, _⟩ := hd2
      have he : lk e tb.tys = some u := he
      obtain ⟨i0, z0, p1, p2, p3, p4, p5, p6⟩ := T.info e u he
      have hce := cell he
      rcases DataW.trod_slice hd1 h with ⟨rfl, _⟩ | ⟨a, ln, cap, elems, rest, n, hfu, rfl, rfl, hb, hl, hm, hlen, hel, _⟩
      · exact ⟨([] : List (den E.toTys u)), Rep.slice.2 ⟨none, 0, rfl, Nat.le_refl _, fun h => absurd rfl h⟩, fun d => ⟨fun x hx => absurd hx List.not_mem_nil, Nat.zero_le _⟩⟩
      · obtain rfl : fuel = n := by omega
        have hau : isArr1 u = false := hty
        have hex : ∀ i, i < ln → ∃ y : den E.toTys u, ∃ c, Rep (XR E) w (fun b => b < w.heap.size) u y c ∧ (∀ d, good E d u y) ∧ c.length = sz E u ∧ ∀ j v, c[j]? = some v → w.cell? ((a.add (i * sz E u)).add j) = some v := by
          intro i hi
          have := hel i hi
          rw [hce] at this
          have hi' : i < elems.length := by omega
          rw [List.getElem?_eq_getElem hi'] at this
          cases hc : w.cells? base (a.add (i * sz E u)) (sz E u) with
          | none => rw [hc] at this; cases this
          | some c =>
            rw [hc] at this
            simp only [Option.bind_some] at this
            obtain ⟨_, g2, g3⟩ := World.cells?_some hc
            obtain ⟨y, y1, y2⟩ := ih he hau this
            exact ⟨y, c, y1, y2, g2, fun j v hv => by rw [g3 j (by rw [← g2]; exact (List.getElem?_eq_some_iff.1 hv).1)]; exact hv⟩
        have hlen2 : (List.ofFn (fun i : Fin ln => Classical.choose (hex i.1 i.2))).length = ln := List.length_ofFn
        refine ⟨List.ofFn (fun i : Fin ln => Classical.choose (hex i.1 i.2)), Rep.slice.2 ⟨some a, cap, by rw [hlen2], by rw [hlen2]; exact hl, fun hne => ?_⟩, fun d => ⟨fun y hy => ?_, by rw [hlen2]; omega⟩⟩
        · have hpos : 0 < ln := by
            rcases Nat.eq_zero_or_pos ln with h | h
            · subst h; exact absurd (by simp) hne
            · exact h
          obtain ⟨y0, c0, _, _, l0, k0⟩ := hex 0 hpos
          have hc0 : ∃ v, c0[0]? = some v := ⟨c0[0]'(by omega), List.getElem?_eq_getElem _⟩
          obtain ⟨v0, hv0⟩ := hc0
          have hc := k0 0 v0 hv0
          have hadd0 : (a.add (0 * sz E u)).add 0 = a := by simp [Addr.add]
          rw [hadd0] at hc
          have hsp := World.cell?_spot hc
          obtain ⟨b, o, s⟩ := a
          simp only at hsp
          subst hsp
          refine ⟨b, o, rfl, ?_, fun j p hp => ?_⟩
          · unfold World.cell? at hc
            split at hc
            · rename_i hh
              exact (Array.getElem?_eq_some_iff.1 hh).1
            · cases hc
          · obtain ⟨hj, hpj⟩ := List.getElem?_eq_some_iff.1 hp
            rw [List.length_ofFn] at hj
            rw [List.getElem_ofFn] at hpj
            obtain ⟨c, h1, _, h3, h4⟩ := Classical.choose_spec (hex j hj)
            refine ⟨c, by rw [← hpj]; exact h1, fun q v hq => ?_⟩
            have := h4 q v hq
            have e : ((⟨b, o, none⟩ : Addr).add (j * sz E u)).add q = ⟨b, o + j * sz E u + q, none⟩ := by
              unfold Addr.add
              split <;> split <;> simp_all
            rw [e] at this
            exact this
        · obtain ⟨i, rfl⟩ := List.mem_ofFn.1 hy
          obtain ⟨c, _, h2, _⟩ := Classical.choose_spec (hex i.1 i.2)
          exact h2 d
    | ptr u => cases hty
    | st n =>
      obtain ⟨fs, hfs, hfl⟩ := chkSt_spec hS ht
      obtain ⟨xs, m, hfu, _, hcl, hxl, hall⟩ := DataW.trod_struct hfs h
      obtain rfl : fuel = m := by omega
      rw [cell ht] at hcl
      have key : ∀ (l : List Field) (off : Nat) (ts : List Ty), chkFl E P tb l off ts = true → (∀ f ∈ l, ∃ y, DataW.trod enc P w base spare held fuel f.type ((cs.drop f.offset).take (P.cellsOf f.type)) = some y) → off + ts.length = cs.length →
          ∃ z : HL E.toTys ts, RVL (Rep (XR E) w fun b => b < w.heap.size) ts z (cs.drop off) ∧ ∀ d, goodL (good E d) ts z := by
        intro l
        induction l with
        | nil =>
          intro off ts hc _ hlen
          cases ts with
          | nil => exact ⟨(), List.drop_eq_nil_of_le (by simp at hlen; omega), fun d => trivial⟩
          | cons => cases hc
        | cons f l ihl =>
          intro off ts hc hf hlen
          simp only [chkFl, Bool.and_eq_true] at hc
          obtain ⟨ho, hc⟩ := hc
          have ho := Nat.eq_of_beq_eq_true ho
          split at hc
          · rename_i fty hft
            simp only [Bool.and_eq_true, Bool.not_eq_true'] at hc
            obtain ⟨hna, hc⟩ := hc
            split at hc
            · rename_i r hr
              have hts := pre_some hr
              subst hts
              obtain ⟨y, hy⟩ := hf f (by simp)
              rw [ho, cell hft] at hy
              obtain ⟨av, a1, a2⟩ := ih hft hna hy
              have hszl : sz E fty = (flatTys E fty).length := by
                cases fty <;> first | rfl | (simp [sz, flatTys, len_eq]; done) | cases hna
              rw [len_eq] at hc
              rw [List.length_append] at hlen
              obtain ⟨z2, b1, b2⟩ := ihl _ _ hc (fun g hg => hf g (by simp [hg])) (by omega)
              have hone : ∃ z1 : HL E.toTys (flatTys E fty), RVL (Rep (XR E) w fun b => b < w.heap.size) (flatTys E fty) z1 ((cs.drop off).take (sz E fty)) ∧ ∀ d, goodL (good E d) (flatTys E fty) z1 := by
                have single : (∀ n, fty ≠ .st n) → flatTys E fty = [fty] → ∃ z1 : HL E.toTys [fty], RVL (Rep (XR E) w fun b => b < w.heap.size) [fty] z1 ((cs.drop off).take (sz E fty)) ∧ ∀ d, goodL (good E d) [fty] z1 := by
                  intro hns hfl1
                  obtain ⟨dd, hdd⟩ := a1
                  obtain ⟨v, hv, h1v⟩ := RVt.cells hns (by rintro n u rfl; cases hna) hdd
                  rw [hv] at hdd ⊢
                  exact ⟨(av, ()), ⟨v, [], rfl, h1v, ⟨dd, hdd⟩, rfl⟩, fun d => a2 d⟩
                cases fty with
                | st m => exact ⟨E.to m av, Rep.st.1 a1, fun d => a2 (d + 1)⟩
                | arr => cases hna
                | ext => cases hna
                | fnv => cases hna
                | em => cases hna
                | ptr => cases hna
                | _ => exact single (by intro n h; cases h) rfl
              obtain ⟨z1, c1, c2⟩ := hone
              obtain ⟨z, d1, d2⟩ := rvl_app c1 b1 c2 b2
              refine ⟨z, ?_, d2⟩
              rw [hszl, ← List.drop_drop, List.take_append_drop] at d1
              exact d1
            · cases hc
          · cases hc
      obtain ⟨z, z1, z2⟩ := key fs.toList 0 (E.fs n) hfl (fun f hf => by
        obtain ⟨i, hi, rfl⟩ := List.mem_iff_getElem.1 hf
        have h1 := hall i fs.toList[i] (by simp at hi ⊢)
        have hi' : i < xs.length := by rw [hxl]; simpa using hi
        exact ⟨xs[i], by rw [h1, List.getElem?_eq_getElem hi']⟩) (by rw [hcl]; simp [sz, len_eq])
      refine ⟨E.of n z, Rep.st.2 (by rw [E.to_of]; simpa using z1), fun d => ?_⟩
      cases d with
      | zero => trivial
      | succ d =>
        show goodL _ _ (E.to n (E.of n z))
        rw [E.to_of]
        exact z2 d
    | arr n u => cases hty
    | ext n t => cases hty
    | fnv n => cases hty
    | em => cases hty
theorem reads_arr {H : Type} {enc : TypeId × Value → H} {w : World} {base : Nat} {spare : Nat → Bool} {held : Bool} {fuel t n : Nat} {u : Ty} {cs : List Value} {x : DataW H × List MemPlace} (ht : lk t tb.tys = some (.arr n u)) (hu : isArr1 u = false) (h : DataW.trod enc P w base spare held fuel t cs = some x) :
    ∃ a : den E.toTys (.arr n u), Rep (XR E) w (fun b => b < w.heap.size) (.arr n u) a cs ∧ ∀ d, good E d (.arr n u) a := by
  have T := hT (fun _ => none)
  have cell : ∀ {e : Nat} {u : Ty}, lk e tb.tys = some u → P.cellsOf e = sz E u := by
    intro e u he
    obtain ⟨i, z, h1, _, h3, _⟩ := T.info e u he
    simp [Program.cellsOf, h1, h3]
  obtain ⟨d, hd1, hd2⟩ := T.desc t _ ht
  cases d <;> simp only at hd2
  obtain ⟨rfl, he⟩ := hd2
  have he : lk _ tb.tys = some u := he
  obtain ⟨xs, m, hfu, _, hcl, hxl, hall⟩ := DataW.trod_array hd1 h
  have hce := cell he
  rw [cell ht] at hcl
  rw [hce] at hall
  have hex : ∀ i, i < n → ∃ y : den E.toTys u, Rep (XR E) w (fun b => b < w.heap.size) u y ((cs.drop (i * sz E u)).take (sz E u)) ∧ ∀ d, good E d u y := by
    intro i hi
    have h1 := hall i hi
    rw [List.getElem?_eq_getElem (by omega)] at h1
    exact reads hT hS m he hu h1
  have hlen : (List.ofFn (fun i : Fin n => Classical.choose (hex i.1 i.2))).length = n := List.length_ofFn
  refine ⟨List.ofFn (fun i : Fin n => Classical.choose (hex i.1 i.2)), Rep.arr.2 ⟨hlen, hcl, fun j p hp => ?_⟩, fun d => ⟨hlen, fun y hy => ?_⟩⟩
  · have hp : (List.ofFn (fun i : Fin n => Classical.choose (hex i.1 i.2)))[j]? = some p := hp
    obtain ⟨hj, hpj⟩ := List.getElem?_eq_some_iff.1 hp
    rw [List.length_ofFn] at hj
    rw [List.getElem_ofFn] at hpj
    rw [← hpj]
    exact (Classical.choose_spec (hex j hj)).1
  · obtain ⟨i, rfl⟩ := List.mem_ofFn.1 hy
    exact (Classical.choose_spec (hex i.1 i.2)).2 d
/-- An argument of a law. -/
theorem arg_ok {H : Type} {enc : TypeId × Value → H} {W : World} {base base' : Nat} {spare : Nat → Bool} {held : Bool} {t : Nat} {ty : Ty} {v : Value} {dd : DataW H} {ps : List MemPlace} {r : Reach} (ht : lk t tb.tys = some ty) (hty : isArrA ty = false)
    (hv : Value.okWide P W r base' t v) (h : DataW.Trod enc P W base spare held t v dd ps) : ∃ (x : den E.toTys ty) (cs : List Value), v = vOf ty cs ∧ Rep (XR E) W (fun b => b < W.heap.size) ty x cs ∧ ∀ d, good E d ty x := by
  obtain ⟨fuel, hf⟩ := h
  have hr : ∃ a : den E.toTys ty, Rep (XR E) W (fun b => b < W.heap.size) ty a v.cells.toList ∧ ∀ d, good E d ty a := by
    cases ty with
    | arr n u => exact reads_arr hT hS ht hty hf
    | _ => exact reads hT hS fuel ht hty hf
  obtain ⟨x, h1, h2⟩ := hr
  refine ⟨x, v.cells.toList, ?_, h1, h2⟩
  obtain ⟨d, hd1, hd2⟩ := (hT fun _ => none).desc t ty ht
  cases ty with
  | int k => cases d <;> simp only at hd2; obtain ⟨n, rfl⟩ := okWide_int hd1 hv; rfl
  | bool => cases d <;> simp only at hd2; obtain ⟨n, rfl⟩ := okWide_bool hd1 hv; rfl
  | slice u => cases d <;> simp only at hd2; obtain ⟨A, len, cap, rfl⟩ := okWide_slice hd1 hv; rfl
  | st n => cases d <;> simp only at hd2; obtain ⟨cs, rfl, _⟩ := okWide_struct hd1 hv; simp [vOf, Value.cells]
  | ptr u => cases hty
  | arr n u =>
    cases d <;> simp only at hd2
    simp only [Value.okWide, hd1] at hv
    obtain ⟨cs, rfl, _⟩ := hv
    simp [vOf, Value.cells]
  | ext n t => cases hty
  | fnv n => cases hty
  | em => cases hty
omit hT hS
theorem ret_bool {X : XRep E} {w w' : World} {okA : Nat → Prop} {b : Bool} {e : Ending} (h : RetOK X w okA [(false, .bool)] b e w') : e = .returned (.bool b) ∧ Below w.heap.size w w' := by
  obtain ⟨us, os, rfl, hb, ⟨v, o, rfl, rfl, _, cs, h1, rfl⟩, _⟩ := h
  rw [Rep.bool.1 h1]
  exact ⟨rfl, hb⟩
end
end Go.Proofs.Ytfmjodlcjaflfaa.V.B

/- Own text: merged by pack2.py. -/
import Derived.Deep.Slices
import Derived.OpenShut
import Derived.ProofKit
import Derived.WideShapes
import Derived.Test.YtfmjodlcjaflfaaMBa
import Derived.Test.YtfmjodlcjaflfaaMBb
set_option linter.unusedSimpArgs false
set_option linter.unusedVariables false
namespace Go.Proofs.Ytfmjodlcjaflfaa.V.B.Tw
set_option linter.unusedVariables false
set_option linter.unusedSimpArgs false

/-- Level n: a bit, or two halves: the higher one and the lower one. -/
def T : Nat → Type
  | 0 => Bool
  | n + 1 => T n × T n
def zero : (n : Nat) → T n
  | 0 => false
  | n + 1 => (zero n, zero n)
def one : (n : Nat) → T n
  | 0 => true
  | n + 1 => (zero n, one n)
/-- The generator. -/
def gen : (n : Nat) → T n
  | 0 => true
  | n + 1 => (one n, zero n)
def add : {n : Nat} → T n → T n → T n
  | 0, a, b => Bool.xor a b
  | _ + 1, a, b => (add a.1 b.1, add a.2 b.2)
def mul : {n : Nat} → T n → T n → T n
  | 0, a, b => Bool.and a b
  | n + 1, a, b => (add (add (mul a.1 b.2) (mul a.2 b.1)) (mul (gen n) (mul a.1 b.1)), add (mul a.2 b.2) (mul a.1 b.1))
instance {n : Nat} : Add (T n) := ⟨add⟩
instance {n : Nat} : Mul (T n) := ⟨mul⟩
instance {n : Nat} : Zero (T n) := ⟨zero n⟩
instance {n : Nat} : One (T n) := ⟨one n⟩
instance : {n : Nat} → DecidableEq (T n)
  | 0 => inferInstanceAs (DecidableEq Bool)
  | n + 1 => let _ : DecidableEq (T n) := instDecidableEqT; inferInstanceAs (DecidableEq (T n × T n))
theorem add_fst {n : Nat} (a b : T (n + 1)) : (a + b).1 = a.1 + b.1 := rfl
theorem add_snd {n : Nat} (a b : T (n + 1)) : (a + b).2 = a.2 + b.2 := rfl
theorem mul_fst {n : Nat} (a b : T (n + 1)) : (a * b).1 = (a.1 * b.2 + a.2 * b.1) + gen n * (a.1 * b.1) := rfl
theorem mul_snd {n : Nat} (a b : T (n + 1)) : (a * b).2 = a.2 * b.2 + a.1 * b.1 := rfl
theorem zero_fst {n : Nat} : (0 : T (n + 1)).1 = 0 := rfl
theorem zero_snd {n : Nat} : (0 : T (n + 1)).2 = 0 := rfl
theorem one_fst {n : Nat} : (1 : T (n + 1)).1 = 0 := rfl
theorem one_snd {n : Nat} : (1 : T (n + 1)).2 = 1 := rfl
theorem gen_fst {n : Nat} : (gen (n + 1)).1 = 1 := rfl
theorem gen_snd {n : Nat} : (gen (n + 1)).2 = 0 := rfl
theorem gen_zero : gen 0 = 1 := rfl
/-- The element of two halves. -/
def mk {n : Nat} (a b : T n) : T (n + 1) := (a, b)
theorem mk_fst {n : Nat} (a b : T n) : (mk a b).1 = a := rfl
theorem mk_snd {n : Nat} (a b : T n) : (mk a b).2 = b := rfl
theorem ext {n : Nat} {a b : T (n + 1)} (h1 : a.1 = b.1) (h2 : a.2 = b.2) : a = b := Prod.ext h1 h2

theorem add_comm : {n : Nat} → (a b : T n) → a + b = b + a
  | 0, a, b => Bool.xor_comm a b
  | n + 1, a, b => ext (add_comm a.1 b.1) (add_comm a.2 b.2)
theorem add_assoc : {n : Nat} → (a b c : T n) → a + b + c = a + (b + c)
  | 0, a, b, c => Bool.xor_assoc a b c
  | n + 1, a, b, c => ext (add_assoc a.1 b.1 c.1) (add_assoc a.2 b.2 c.2)
theorem zero_add : {n : Nat} → (a : T n) → 0 + a = a
  | 0, a => Bool.false_xor a
  | n + 1, a => ext (zero_add a.1) (zero_add a.2)
theorem add_self : {n : Nat} → (a : T n) → a + a = 0
  | 0, a => Bool.xor_self a
  | n + 1, a => ext (add_self a.1) (add_self a.2)
theorem add_zero {n : Nat} (a : T n) : a + 0 = a := by rw [add_comm, zero_add]
theorem add_left_comm {n : Nat} (a b c : T n) : a + (b + c) = b + (a + c) := by rw [← add_assoc, add_comm a b, add_assoc]
theorem add_add_self {n : Nat} (a b : T n) : a + (a + b) = b := by rw [← add_assoc, add_self, zero_add]
theorem add_cancel_left {n : Nat} {a b c : T n} (h : a + b = a + c) : b = c := by
  have := congrArg (a + ·) h
  simpa only [add_add_self] using this
theorem add_eq_zero {n : Nat} {a b : T n} (h : a + b = 0) : a = b := by
  have := congrArg (· + b) h
  simp only [add_assoc, add_self, add_zero, zero_add] at this
  exact this
theorem eq_add_of {n : Nat} {a b c : T n} (h : a + b = c) : a = c + b := by rw [← h, add_assoc, add_self, add_zero]

/-- The laws of products, all at once. -/
structure Laws (n : Nat) : Prop where
  comm : ∀ a b : T n, a * b = b * a
  zero_mul : ∀ a : T n, 0 * a = 0
  one_mul : ∀ a : T n, 1 * a = a
  mul_add : ∀ a b c : T n, a * (b + c) = a * b + a * c
  assoc : ∀ a b c : T n, a * b * c = a * (b * c)
theorem laws : (n : Nat) → Laws n
  | 0 => ⟨Bool.and_comm, Bool.false_and, Bool.true_and, by intro a b c; cases a <;> cases b <;> cases c <;> rfl, Bool.and_assoc⟩
  | n + 1 => by
    obtain ⟨comm, zmul, omul, madd, massoc⟩ := laws n
    have addm : ∀ a b c : T n, (a + b) * c = a * c + b * c := fun a b c => by rw [comm, madd, comm c a, comm c b]
    have mulz : ∀ a : T n, a * 0 = 0 := fun a => by rw [comm, zmul]
    have mulo : ∀ a : T n, a * 1 = a := fun a => by rw [comm, omul]
    have lcomm : ∀ a b c : T n, a * (b * c) = b * (a * c) := fun a b c => by rw [← massoc, comm a b, massoc]
    refine ⟨fun a b => ext ?_ ?_, fun a => ext ?_ ?_, fun a => ext ?_ ?_, fun a b c => ext ?_ ?_, fun a b c => ext ?_ ?_⟩
    · simp only [mul_fst]; rw [comm a.1 b.2, comm a.2 b.1, comm a.1 b.1, add_comm (b.2 * a.1)]
    · simp only [mul_snd]; rw [comm a.2 b.2, comm a.1 b.1]
    · simp only [mul_fst, zero_fst, zero_snd, zmul, mulz, add_zero]
    · simp only [mul_snd, zero_fst, zero_snd, zmul, mulz, add_zero]
    · simp only [mul_fst, one_fst, one_snd, zmul, mulz, omul, add_zero, zero_add]
    · simp only [mul_snd, one_fst, one_snd, zmul, mulz, omul, add_zero, zero_add]
    · simp only [mul_fst, add_fst, add_snd, madd, addm, add_assoc, add_left_comm, add_comm]
    · simp only [mul_snd, add_fst, add_snd, madd, addm, add_assoc, add_left_comm, add_comm]
    · simp only [mul_fst, mul_snd, madd, addm, massoc, lcomm, comm, add_assoc, add_left_comm, add_comm]
    · simp only [mul_fst, mul_snd, madd, addm, massoc, lcomm, comm, add_assoc, add_left_comm, add_comm]
section
variable {n : Nat} (a b c d : T n)
theorem mul_comm : a * b = b * a := (laws n).comm a b
theorem mul_assoc : a * b * c = a * (b * c) := (laws n).assoc a b c
theorem mul_left_comm : a * (b * c) = b * (a * c) := by rw [← mul_assoc, mul_comm a b, mul_assoc]
theorem zero_mul : 0 * a = 0 := (laws n).zero_mul a
theorem mul_zero : a * 0 = 0 := by rw [mul_comm, zero_mul]
theorem one_mul : 1 * a = a := (laws n).one_mul a
theorem mul_one : a * 1 = a := by rw [mul_comm, one_mul]
theorem mul_add : a * (b + c) = a * b + a * c := (laws n).mul_add a b c
theorem add_mul : (a + b) * c = a * c + b * c := by rw [mul_comm, mul_add, mul_comm c a, mul_comm c b]
theorem add_sq : (a + b) * (a + b) = a * a + b * b := by
  rw [mul_add, add_mul, add_mul, mul_comm b a, add_assoc, ← add_assoc (a * b), add_self, zero_add]
end
end Go.Proofs.Ytfmjodlcjaflfaa.V.B.Tw
namespace Go.Proofs.Ytfmjodlcjaflfaa.V.B.Tw
set_option linter.unusedVariables false
set_option linter.unusedSimpArgs false
/-- How many words of bits an element of a level is: 2 to the power 2^n. -/
def Q (n : Nat) : Nat := 2 ^ 2 ^ n
theorem Q_pos (n : Nat) : 0 < Q n := Nat.two_pow_pos _
theorem Q_succ (n : Nat) : Q (n + 1) = Q n * Q n := by unfold Q; rw [← Nat.pow_add, Nat.pow_succ 2 n, Nat.mul_two]
theorem Q_le_succ (n : Nat) : Q n ≤ Q (n + 1) := by rw [Q_succ]; exact Nat.le_mul_of_pos_left _ (Q_pos n)
theorem Q_mono {m n : Nat} (h : m ≤ n) : Q m ≤ Q n := Nat.pow_le_pow_right (by decide) (Nat.pow_le_pow_right (by decide) h)
theorem Q_six : Q 6 = 2 ^ 64 := rfl
theorem Q_seven : Q 7 = 2 ^ 128 := rfl
def val : {n : Nat} → T n → Nat
  | 0, a => Bool.toNat a
  | n + 1, a => val a.1 * Q n + val a.2
def of : (n : Nat) → Nat → T n
  | 0, x => x % 2 == 1
  | n + 1, x => mk (of n (x / Q n)) (of n (x % Q n))
theorem val_zero_lvl (a : T 0) : val a = Bool.toNat a := rfl
theorem val_succ {n : Nat} (a : T (n + 1)) : val a = val a.1 * Q n + val a.2 := rfl
theorem of_succ (n x : Nat) : of (n + 1) x = mk (of n (x / Q n)) (of n (x % Q n)) := rfl
theorem val_lt : {n : Nat} → (a : T n) → val a < Q n
  | 0, a => by cases a <;> decide
  | n + 1, a => by
    rw [val_succ, Q_succ]
    have h1 := val_lt a.1
    have h2 := val_lt a.2
    have h3 : val a.1 * Q n + Q n ≤ Q n * Q n := by
      have := Nat.mul_le_mul_right (Q n) h1
      rw [Nat.succ_mul] at this; exact this
    omega
theorem val_div {n : Nat} (a : T (n + 1)) : val a / Q n = val a.1 := by
  rw [val_succ, Nat.mul_comm, Nat.mul_add_div (Q_pos n), Nat.div_eq_of_lt (val_lt a.2), Nat.add_zero]
theorem val_mod {n : Nat} (a : T (n + 1)) : val a % Q n = val a.2 := by
  rw [val_succ, Nat.mul_comm, Nat.mul_add_mod, Nat.mod_eq_of_lt (val_lt a.2)]
theorem of_val : {n : Nat} → (a : T n) → of n (val a) = a
  | 0, a => by cases a <;> rfl
  | n + 1, a => by rw [of_succ, val_div, val_mod, of_val a.1, of_val a.2]; rfl
theorem val_of : (n : Nat) → (x : Nat) → x < Q n → val (of n x) = x
  | 0, x, h => by
    have h' : x < 2 := h
    have : x = 0 ∨ x = 1 := by omega
    rcases this with rfl | rfl <;> rfl
  | n + 1, x, h => by
    rw [of_succ, val_succ, mk_fst, mk_snd]
    rw [Q_succ] at h
    rw [val_of n _ (Nat.div_lt_of_lt_mul h), val_of n _ (Nat.mod_lt _ (Q_pos n)), Nat.mul_comm]
    exact Nat.div_add_mod x (Q n)
theorem val_inj {n : Nat} {a b : T n} (h : val a = val b) : a = b := by rw [← of_val a, h, of_val]
theorem val_zero : (n : Nat) → val (0 : T n) = 0
  | 0 => rfl
  | n + 1 => by rw [val_succ, zero_fst, zero_snd, val_zero n, Nat.zero_mul]
theorem val_one : (n : Nat) → val (1 : T n) = 1
  | 0 => rfl
  | n + 1 => by rw [val_succ, one_fst, one_snd, val_zero n, val_one n, Nat.zero_mul]
theorem of_zero (n : Nat) : of n 0 = 0 := by rw [← val_zero n, of_val]
theorem of_one (n : Nat) : of n 1 = 1 := by rw [← val_one n, of_val]
theorem val_eq_zero {n : Nat} {a : T n} : val a = 0 ↔ a = 0 := ⟨fun h => val_inj (h.trans (val_zero n).symm), fun h => by rw [h, val_zero]⟩
theorem xor_join {n a b c d : Nat} (hb : b < Q n) (hd : d < Q n) : (a * Q n + b) ^^^ (c * Q n + d) = (a ^^^ c) * Q n + (b ^^^ d) := by
  have h1 : ((a * Q n + b) ^^^ (c * Q n + d)) / Q n = a ^^^ c := by
    unfold Q at *
    rw [Nat.xor_div_two_pow, Nat.mul_comm a, Nat.mul_comm c, Nat.mul_add_div (Nat.two_pow_pos _), Nat.mul_add_div (Nat.two_pow_pos _), Nat.div_eq_of_lt hb, Nat.div_eq_of_lt hd]; rfl
  have h2 : ((a * Q n + b) ^^^ (c * Q n + d)) % Q n = b ^^^ d := by
    unfold Q at *
    rw [Nat.xor_mod_two_pow, Nat.mul_comm a, Nat.mul_comm c, Nat.mul_add_mod, Nat.mul_add_mod, Nat.mod_eq_of_lt hb, Nat.mod_eq_of_lt hd]
  have := Nat.div_add_mod ((a * Q n + b) ^^^ (c * Q n + d)) (Q n)
  rw [h1, h2, Nat.mul_comm] at this
  exact this.symm
theorem val_add : {n : Nat} → (a b : T n) → val (a + b) = val a ^^^ val b
  | 0, a, b => by cases a <;> cases b <;> rfl
  | n + 1, a, b => by
    rw [val_succ, val_succ, val_succ, add_fst, add_snd, val_add a.1 b.1, val_add a.2 b.2, xor_join (val_lt _) (val_lt _)]
theorem xor_lt {n x y : Nat} (hx : x < Q n) (hy : y < Q n) : x ^^^ y < Q n := Nat.xor_lt_two_pow hx hy
theorem of_xor {n x y : Nat} (hx : x < Q n) (hy : y < Q n) : of n (x ^^^ y) = of n x + of n y :=
  val_inj (by rw [val_of _ _ (xor_lt hx hy), val_add, val_of _ _ hx, val_of _ _ hy])
/-- A number of a lower level: the higher half is 0. -/
theorem of_low {n x : Nat} (h : x < Q n) : of (n + 1) x = mk 0 (of n x) := by
  rw [of_succ, Nat.div_eq_of_lt h, Nat.mod_eq_of_lt h, of_zero]
/-- One level up. -/
def up {n : Nat} (a : T n) : T (n + 1) := mk 0 a
theorem up_fst {n : Nat} (a : T n) : (up a).1 = 0 := rfl
theorem up_snd {n : Nat} (a : T n) : (up a).2 = a := rfl
theorem val_up {n : Nat} (a : T n) : val (up a) = val a := by rw [val_succ, up_fst, up_snd, val_zero, Nat.zero_mul, Nat.zero_add]
theorem up_add {n : Nat} (a b : T n) : up (a + b) = up a + up b := ext (by rw [add_fst, up_fst, up_fst, up_fst, add_zero]) rfl
theorem up_mul {n : Nat} (a b : T n) : up (a * b) = up a * up b :=
  ext (by simp only [mul_fst, up_fst, up_snd, zero_mul, mul_zero, add_zero]) (by simp only [mul_snd, up_fst, up_snd, zero_mul, add_zero])
theorem up_mul_any {n : Nat} (a : T n) (b : T (n + 1)) : up a * b = mk (a * b.1) (a * b.2) :=
  ext (by simp only [mul_fst, up_fst, up_snd, zero_mul, mul_zero, add_zero, zero_add, mk_fst]) (by simp only [mul_snd, up_fst, up_snd, zero_mul, add_zero, mk_snd])
theorem up_zero (n : Nat) : up (0 : T n) = 0 := rfl
theorem up_one (n : Nat) : up (1 : T n) = 1 := rfl
theorem up_inj {n : Nat} {a b : T n} (h : up a = up b) : a = b := congrArg (fun x : T (n + 1) => x.2) h
/-- Many levels up. -/
def ups {n : Nat} : (d : Nat) → T n → T (n + d)
  | 0, a => a
  | d + 1, a => up (ups d a)
theorem ups_add {n : Nat} (a b : T n) : (d : Nat) → ups d (a + b) = ups d a + ups d b
  | 0 => rfl
  | d + 1 => by show up (ups d (a + b)) = _; rw [ups_add a b d, up_add]; rfl
theorem ups_mul {n : Nat} (a b : T n) : (d : Nat) → ups d (a * b) = ups d a * ups d b
  | 0 => rfl
  | d + 1 => by show up (ups d (a * b)) = _; rw [ups_mul a b d, up_mul]; rfl
theorem val_ups {n : Nat} (a : T n) : (d : Nat) → val (ups d a) = val a
  | 0 => rfl
  | d + 1 => by show val (up (ups d a)) = _; rw [val_up, val_ups a d]
theorem ups_zero {n : Nat} (d : Nat) : ups d (0 : T n) = 0 := val_inj (by rw [val_ups, val_zero, val_zero])
theorem ups_one {n : Nat} (d : Nat) : ups d (1 : T n) = 1 := val_inj (by rw [val_ups, val_one, val_one])
theorem ups_of {n d x : Nat} (h : x < Q n) : ups d (of n x) = of (n + d) x := val_inj (by rw [val_ups, val_of _ _ h, val_of _ _ (Nat.lt_of_lt_of_le h (Q_mono (Nat.le_add_right _ _)))])
/-- Products of numbers of a lower level are of it. -/
theorem val_mul_low {n d x y : Nat} (hx : x < Q n) (hy : y < Q n) : val (of (n + d) x * of (n + d) y) = val (of n x * of n y) := by
  rw [← ups_of hx, ← ups_of hy, ← ups_mul, val_ups]
theorem val_mul_level {l m x y : Nat} (h : l ≤ m) (hx : x < Q l) (hy : y < Q l) : val (of m x * of m y) = val (of l x * of l y) := by
  obtain ⟨d, rfl⟩ := Nat.le.dest h
  exact val_mul_low hx hy
theorem val_mul_lt {l m x y : Nat} (h : l ≤ m) (hx : x < Q l) (hy : y < Q l) : val (of m x * of m y) < Q l := by
  rw [val_mul_level h hx hy]; exact val_lt _
end Go.Proofs.Ytfmjodlcjaflfaa.V.B.Tw
namespace Go.Proofs.Ytfmjodlcjaflfaa.V.B.Tw
set_option linter.unusedVariables false
set_option linter.unusedSimpArgs false
theorem join_div {n a b : Nat} (hb : b < Q n) : (a * Q n + b) / Q n = a := by rw [Nat.mul_comm, Nat.mul_add_div (Q_pos n), Nat.div_eq_of_lt hb, Nat.add_zero]
theorem join_mod {n a b : Nat} (hb : b < Q n) : (a * Q n + b) % Q n = b := by rw [Nat.mul_comm, Nat.mul_add_mod, Nat.mod_eq_of_lt hb]
theorem and_join {n a b c d : Nat} (hb : b < Q n) (hd : d < Q n) : (a * Q n + b) &&& (c * Q n + d) = (a &&& c) * Q n + (b &&& d) := by
  have h1 : ((a * Q n + b) &&& (c * Q n + d)) / Q n = a &&& c := by
    have e1 := join_div (n := n) (a := a) hb
    have e2 := join_div (n := n) (a := c) hd
    unfold Q at *
    rw [Nat.and_div_two_pow, e1, e2]
  have h2 : ((a * Q n + b) &&& (c * Q n + d)) % Q n = b &&& d := by
    have e1 := join_mod (n := n) (a := a) hb
    have e2 := join_mod (n := n) (a := c) hd
    unfold Q at *
    rw [Nat.and_mod_two_pow, e1, e2]
  have := Nat.div_add_mod ((a * Q n + b) &&& (c * Q n + d)) (Q n)
  rw [h1, h2, Nat.mul_comm] at this
  exact this.symm
theorem or_join {n a b c d : Nat} (hb : b < Q n) (hd : d < Q n) : (a * Q n + b) ||| (c * Q n + d) = (a ||| c) * Q n + (b ||| d) := by
  have h1 : ((a * Q n + b) ||| (c * Q n + d)) / Q n = a ||| c := by
    have e1 := join_div (n := n) (a := a) hb
    have e2 := join_div (n := n) (a := c) hd
    unfold Q at *
    rw [Nat.or_div_two_pow, e1, e2]
  have h2 : ((a * Q n + b) ||| (c * Q n + d)) % Q n = b ||| d := by
    have e1 := join_mod (n := n) (a := a) hb
    have e2 := join_mod (n := n) (a := c) hd
    unfold Q at *
    rw [Nat.or_mod_two_pow, e1, e2]
  have := Nat.div_add_mod ((a * Q n + b) ||| (c * Q n + d)) (Q n)
  rw [h1, h2, Nat.mul_comm] at this
  exact this.symm
theorem or_lt {n x y : Nat} (hx : x < Q n) (hy : y < Q n) : x ||| y < Q n := Nat.or_lt_two_pow hx hy
/-- The lower halves of all blocks of 2^(j+1) bits in a word of 2^n. -/
def M (j : Nat) : Nat → Nat
  | 0 => 0
  | n + 1 => if n = j then Q j - 1 else if n < j then 0 else M j n * Q n + M j n
theorem M_base (j : Nat) : M j (j + 1) = Q j - 1 := by simp [M]
theorem M_succ {j n : Nat} (h : j + 1 ≤ n) : M j (n + 1) = M j n * Q n + M j n := by
  rw [M, if_neg (by omega), if_neg (by omega)]
/-- What is left of a word without its highest block of 2^j bits. -/
def H (j n : Nat) : Nat := 2 ^ (2 ^ n - 2 ^ j)
theorem H_mul {j n : Nat} (h : j ≤ n) : H j n * Q j = Q n := by
  have := Nat.pow_le_pow_right (show 2 > 0 by decide) h
  unfold H Q; rw [← Nat.pow_add, Nat.sub_add_cancel this]
theorem H_pos (j n : Nat) : 0 < H j n := Nat.two_pow_pos _
theorem H_succ {j n : Nat} (h : j ≤ n) : H j (n + 1) = H j n * Q n := by
  have := Nat.pow_le_pow_right (show 2 > 0 by decide) h
  unfold H Q; rw [← Nat.pow_add]; congr 1; rw [Nat.pow_succ]; omega
theorem H_self (j : Nat) : H j j = 1 := by unfold H; rw [Nat.sub_self, Nat.pow_zero]
theorem H_base (j : Nat) : H j (j + 1) = Q j := by rw [H_succ (Nat.le_refl _), H_self, Nat.one_mul]
theorem H_le {j n : Nat} (h : j ≤ n) : H j n ≤ Q n := by rw [← H_mul h]; exact Nat.le_mul_of_pos_right _ (Q_pos j)
theorem lt_H_mul {j n x : Nat} (h : j ≤ n) (hx : x < H j n) : x * Q j < Q n := by
  rw [← H_mul h]; exact Nat.mul_lt_mul_of_pos_right hx (Q_pos j)
theorem M_lt {j : Nat} : ∀ d, M j (j + 1 + d) < H j (j + 1 + d)
  | 0 => by rw [Nat.add_zero, M_base, H_base]; have := Q_pos j; omega
  | d + 1 => by
    have ih := M_lt (j := j) d
    rw [← Nat.add_assoc, M_succ (by omega), H_succ (by omega)]
    have h2 : M j (j + 1 + d) < Q (j + 1 + d) := Nat.lt_of_lt_of_le ih (H_le (by omega))
    have h3 : M j (j + 1 + d) * Q (j + 1 + d) + Q (j + 1 + d) ≤ H j (j + 1 + d) * Q (j + 1 + d) := by
      have := Nat.mul_le_mul_right (Q (j + 1 + d)) ih
      rw [Nat.succ_mul] at this; exact this
    omega
theorem M_lt' {j n : Nat} (h : j + 1 ≤ n) : M j n < H j n := by
  obtain ⟨d, rfl⟩ := Nat.le.dest h; exact M_lt d
theorem M_lt_Q {j n : Nat} (h : j + 1 ≤ n) : M j n < Q n := Nat.lt_of_lt_of_le (M_lt' h) (H_le (by omega))
theorem and_le_lt {x m b : Nat} (h : m < b) : x &&& m < b := Nat.lt_of_le_of_lt Nat.and_le_right h
/-- A word times the generator of the level j, block by block. -/
def tw (n : Nat) : Nat → Nat → Nat
  | 0, v => v
  | j + 1, v => (((v &&& M j n) ^^^ tw n j ((v / Q j) &&& M j n)) * Q j) % Q n ||| ((v / Q j) &&& M j n)
theorem gen_lt (j : Nat) : val (gen j) < Q j := val_lt _
theorem scal_top {j g : Nat} (hg : g < Q j) : ∀ d u, u < H j (j + d) → val (of (j + d) g * of (j + d) u) < H j (j + d)
  | 0, u, hu => by
    rw [Nat.add_zero, H_self] at hu ⊢
    have : u = 0 := by omega
    rw [this, of_zero, mul_zero, val_zero]; decide
  | d + 1, u, hu => by
    rw [← Nat.add_assoc] at hu ⊢
    rw [H_succ (Nat.le_add_right _ _)] at hu ⊢
    have hg' : g < Q (j + d) := Nat.lt_of_lt_of_le hg (Q_mono (Nat.le_add_right _ _))
    have e1 : of (j + d + 1) g = up (of (j + d) g) := of_low hg'
    rw [e1, up_mul_any, val_succ, mk_fst, mk_snd, of_succ, mk_fst, mk_snd]
    have h1 := scal_top hg d (u / Q (j + d)) (Nat.div_lt_of_lt_mul (by rw [Nat.mul_comm]; exact hu))
    have h2 := val_lt (of (j + d) g * of (j + d) (u % Q (j + d)))
    have h3 : val (of (j + d) g * of (j + d) (u / Q (j + d))) * Q (j + d) + Q (j + d) ≤ H j (j + d) * Q (j + d) := by
      have := Nat.mul_le_mul_right (Q (j + d)) h1
      rw [Nat.succ_mul] at this; exact this
    omega
theorem tw_split {j : Nat} (C : ∀ n, j ≤ n → ∀ v, v < Q n → tw n j v = val (of n (val (gen j)) * of n v)) (D : ∀ n, j ≤ n → ∀ h l, h < Q n → l < Q n → tw (n + 1) j (h * Q n + l) = tw n j h * Q n + tw n j l) :
    ∀ n, j + 1 ≤ n → ∀ h l, h < Q n → l < Q n → tw (n + 1) (j + 1) (h * Q n + l) = tw n (j + 1) h * Q n + tw n (j + 1) l ∧ tw n (j + 1) l < Q n := by
  intro n hn h l hh hl
  have hM := M_lt' hn
  have hMQ := M_lt_Q hn
  have hjn : j ≤ n := by omega
  have hQj := Q_pos j
  -- the higher parts
  have hdiv : (h * Q n + l) / Q j = (h / Q j) * Q n + ((h % Q j) * H j n + l / Q j) := by
    have e1 : h * Q n = (h * H j n) * Q j := by rw [← H_mul hjn, Nat.mul_assoc]
    rw [e1, Nat.mul_comm (h * H j n), Nat.mul_add_div hQj]
    have e2 := Nat.div_add_mod h (Q j)
    have e3 : h * H j n = (h / Q j) * Q n + (h % Q j) * H j n := by
      conv => lhs; rw [← e2]
      rw [Nat.add_mul, ← H_mul hjn]
      congr 1
      rw [Nat.mul_comm (Q j), Nat.mul_assoc, Nat.mul_comm (Q j)]
    rw [e3, Nat.add_assoc]
  have hlq : l / Q j < H j n := Nat.div_lt_of_lt_mul (by rw [Nat.mul_comm, H_mul hjn]; exact hl)
  have hl' : (h % Q j) * H j n + l / Q j < Q n := by
    have h1 : (h % Q j) * H j n + H j n ≤ Q j * H j n := by
      have := Nat.mul_le_mul_right (H j n) (Nat.mod_lt h hQj)
      rw [Nat.succ_mul] at this; exact this
    rw [Nat.mul_comm (Q j), H_mul hjn] at h1
    omega
  have hand : ((h % Q j) * H j n + l / Q j) &&& M j n = (l / Q j) &&& M j n := by
    have e1 : ∀ x, x &&& M j n = (x % H j n) &&& M j n := fun x => by
      have h3 : x &&& M j n < H j n := and_le_lt hM
      have h4 : (x &&& M j n) % H j n = x &&& M j n := Nat.mod_eq_of_lt h3
      rw [← h4]; unfold H; rw [Nat.and_mod_two_pow]
      rw [show M j n % 2 ^ (2 ^ n - 2 ^ j) = M j n from Nat.mod_eq_of_lt hM]
    rw [e1, Nat.mul_comm, Nat.mul_add_mod, ← e1]
  have hhi : ((h * Q n + l) / Q j) &&& M j (n + 1) = ((h / Q j) &&& M j n) * Q n + ((l / Q j) &&& M j n) := by
    rw [M_succ hn, hdiv, and_join hl' hMQ, hand]
  have hlo : (h * Q n + l) &&& M j (n + 1) = (h &&& M j n) * Q n + (l &&& M j n) := by rw [M_succ hn, and_join hl hMQ]
  have b1 : (h / Q j) &&& M j n < Q n := and_le_lt hMQ
  have b2 : (l / Q j) &&& M j n < Q n := and_le_lt hMQ
  have b3 : l &&& M j n < H j n := and_le_lt hM
  have b4 : (l / Q j) &&& M j n < H j n := and_le_lt hM
  have b5 : tw n j ((l / Q j) &&& M j n) < H j n := by
    rw [C n hjn _ b2]
    obtain ⟨d, rfl⟩ := Nat.le.dest hjn
    exact scal_top (gen_lt j) d _ b4
  have b6 : (l &&& M j n) ^^^ tw n j ((l / Q j) &&& M j n) < H j n := Nat.xor_lt_two_pow b3 b5
  have b7 := lt_H_mul hjn b6
  have b8 : tw n j ((l / Q j) &&& M j n) < Q n := Nat.lt_of_lt_of_le b5 (H_le hjn)
  have b9 : l &&& M j n < Q n := and_le_lt hMQ
  constructor
  · simp only [tw]
    rw [hhi, hlo, D n hjn _ _ b1 b2, xor_join b9 b8, Nat.add_mul]
    have e5 : ∀ X Y : Nat, Y < Q n → (X * Q n * Q j + Y) % Q (n + 1) = ((X * Q j) % Q n) * Q n + Y := by
      intro X Y hY
      rw [show X * Q n * Q j = X * Q j * Q n by rw [Nat.mul_assoc, Nat.mul_comm (Q n), ← Nat.mul_assoc], Q_succ]
      rw [Nat.mul_comm (X * Q j), Nat.mod_mul, Nat.mul_add_mod, Nat.mod_eq_of_lt hY, Nat.mul_add_div (Q_pos n), Nat.div_eq_of_lt hY, Nat.add_zero, Nat.mul_comm (Q n), Nat.add_comm]
    rw [e5 _ _ b7, or_join b7 b2, Nat.mod_eq_of_lt b7]
  · simp only [tw]
    exact or_lt (Nat.mod_lt _ (Q_pos n)) b2
theorem tw_laws : ∀ j, (∀ n, j ≤ n → ∀ v, v < Q n → tw n j v = val (of n (val (gen j)) * of n v)) ∧ (∀ n, j ≤ n → ∀ h l, h < Q n → l < Q n → tw (n + 1) j (h * Q n + l) = tw n j h * Q n + tw n j l)
  | 0 => ⟨fun n _ v hv => by rw [gen_zero, val_one, of_one, one_mul, val_of _ _ hv]; rfl, fun n _ h l _ _ => rfl⟩
  | j + 1 => by
    obtain ⟨C, D⟩ := tw_laws j
    have D' := tw_split C D
    refine ⟨?_, fun n hn h l hh hl => (D' n hn h l hh hl).1⟩
    intro n hn
    obtain ⟨d, rfl⟩ := Nat.le.dest hn
    clear hn
    induction d with
    | zero =>
      intro v hv
      rw [Nat.add_zero] at hv ⊢
      have hQj := Q_pos j
      have hd : v / Q j < Q j := Nat.div_lt_of_lt_mul (by rw [← Q_succ]; exact hv)
      have hm : v % Q j < Q j := Nat.mod_lt _ hQj
      have hmask : ∀ x, x &&& M j (j + 1) = x % Q j := fun x => by rw [M_base]; unfold Q; rw [Nat.and_two_pow_sub_one_eq_mod]
      have e1 : tw (j + 1) j (v / Q j) = val (gen j * of j (v / Q j)) := by
        rw [C (j + 1) (by omega) _ (Nat.lt_of_lt_of_le hd (Q_le_succ j)), val_mul_low (d := 1) (gen_lt j) hd, of_val]
      simp only [tw]
      rw [hmask, hmask, Nat.mod_eq_of_lt hd, e1]
      have hv2 := val_lt (gen j * of j (v / Q j))
      have hX := xor_lt hm hv2
      rw [Nat.mod_eq_of_lt (show _ * Q j < Q (j + 1) by rw [Q_succ]; exact Nat.mul_lt_mul_of_pos_right hX hQj)]
      have hor : ∀ X, X * Q j ||| (v / Q j) = X * Q j + v / Q j := fun X => by
        have := or_join (n := j) (a := X) (b := 0) (c := 0) (d := v / Q j) hQj hd
        simpa using this
      rw [hor, of_val, val_succ]
      congr 1
      · congr 1
        rw [mul_fst, gen_fst, gen_snd, one_mul, zero_mul, one_mul, add_zero, of_succ, mk_fst, mk_snd, val_add, val_of _ _ hm]
      · rw [mul_snd, gen_fst, gen_snd, one_mul, zero_mul, zero_add, of_succ, mk_fst, val_of _ _ hd]
    | succ d ih =>
      intro v hv
      rw [← Nat.add_assoc] at hv ⊢
      have hvd := Nat.div_add_mod v (Q (j + 1 + d))
      rw [Nat.mul_comm] at hvd
      have h1 : v / Q (j + 1 + d) < Q (j + 1 + d) := Nat.div_lt_of_lt_mul (by rw [← Q_succ]; exact hv)
      have h2 : v % Q (j + 1 + d) < Q (j + 1 + d) := Nat.mod_lt _ (Q_pos _)
      have hg : val (gen (j + 1)) < Q (j + 1 + d) := Nat.lt_of_lt_of_le (gen_lt (j + 1)) (Q_mono (Nat.le_add_right _ _))
      have e1 : of (j + 1 + d + 1) (val (gen (j + 1))) = up (of (j + 1 + d) (val (gen (j + 1)))) := of_low hg
      rw [e1, up_mul_any, val_succ, mk_fst, mk_snd, of_succ, mk_fst, mk_snd, ← ih _ h1, ← ih _ h2]
      conv => lhs; rw [← hvd]
      exact (D' (j + 1 + d) (by omega) _ _ h1 h2).1
theorem tw_eq {j n v : Nat} (h : j ≤ n) (hv : v < Q n) : tw n j v = val (of n (val (gen j)) * of n v) := (tw_laws j).1 n h v hv
/-- A bit of a level is a product of generators. -/
def gp (n : Nat) : Nat → Nat → T n
  | 0, _ => 1
  | m + 1, i => (if i.testBit m then of n (val (gen (m + 1))) else 1) * gp n m i
theorem gp_up {n : Nat} : ∀ m i, m ≤ n → gp (n + 1) m i = up (gp n m i)
  | 0, i, _ => rfl
  | m + 1, i, h => by
    show (if i.testBit m then of (n + 1) (val (gen (m + 1))) else 1) * gp (n + 1) m i = up ((if i.testBit m then of n (val (gen (m + 1))) else 1) * gp n m i)
    rw [up_mul, gp_up m i (by omega)]
    congr 1
    split
    · exact of_low (Nat.lt_of_lt_of_le (gen_lt (m + 1)) (Q_mono h))
    · rfl
theorem gp_mod {n : Nat} : ∀ m i k, m ≤ k → gp n m (i % 2 ^ k) = gp n m i
  | 0, i, k, _ => rfl
  | m + 1, i, k, h => by
    show (if (i % 2 ^ k).testBit m then _ else _) * gp n m (i % 2 ^ k) = (if i.testBit m then _ else _) * gp n m i
    rw [gp_mod m i k (by omega), Nat.testBit_mod_two_pow, decide_eq_true (by omega), Bool.true_and]
theorem gp_bit : ∀ n i, i < 2 ^ n → gp n n i = of n (2 ^ i)
  | 0, i, h => by
    have : i = 0 := by simpa using h
    rw [this]; rfl
  | n + 1, i, h => by
    show (if i.testBit n then of (n + 1) (val (gen (n + 1))) else 1) * gp (n + 1) n i = of (n + 1) (2 ^ i)
    rw [gp_up n i (Nat.le_refl _), ← gp_mod n i n (Nat.le_refl _), gp_bit n _ (Nat.mod_lt _ (Nat.two_pow_pos n))]
    rw [Nat.pow_succ] at h
    by_cases c : i < 2 ^ n
    · rw [Nat.testBit_lt_two_pow c, Nat.mod_eq_of_lt c]
      rw [of_low (show 2 ^ i < Q n from Nat.pow_lt_pow_right (by decide) c)]
      simp only [Bool.false_eq_true, if_false, one_mul]; rfl
    · have hi : i % 2 ^ n = i - 2 ^ n := by rw [Nat.mod_eq_sub_mod (by omega), Nat.mod_eq_of_lt (by omega)]
      have hb : i.testBit n = true := by
        have := Nat.testBit_two_pow_add_eq (i - 2 ^ n) n
        rw [show 2 ^ n + (i - 2 ^ n) = i by omega, Nat.testBit_lt_two_pow (show i - 2 ^ n < 2 ^ n by omega)] at this
        simpa using this
      rw [hb, if_pos rfl, hi, of_val]
      have e : 2 ^ i = 2 ^ (i - 2 ^ n) * Q n + 0 := by
        unfold Q; rw [← Nat.pow_add, Nat.add_zero]; congr 1; omega
      rw [e, of_succ, join_div (Q_pos n), join_mod (Q_pos n), of_zero]
      apply ext
      · rw [mul_fst, gen_fst, gen_snd, up_fst, up_snd, one_mul, zero_mul, mul_zero, mul_zero, add_zero, add_zero]; rfl
      · rw [mul_snd, gen_fst, gen_snd, up_fst, zero_mul, mul_zero, add_zero]; rfl
/-- An element is the sum of its bits. -/
theorem bits_sum {n : Nat} (b k : Nat) (hb : b < Q n) (hk : k < 2 ^ n) : of n (b % 2 ^ (k + 1)) = of n (b % 2 ^ k) + (if b.testBit k then of n (2 ^ k) else 0) := by
  have h2 : 2 ^ k < Q n := Nat.pow_lt_pow_right (by decide) hk
  have h1 : b % 2 ^ k < Q n := Nat.lt_trans (Nat.mod_lt _ (Nat.two_pow_pos k)) h2
  have e : b % 2 ^ (k + 1) = b % 2 ^ k ^^^ (if b.testBit k then 2 ^ k else 0) := by
    apply Nat.eq_of_testBit_eq
    intro i
    rw [Nat.testBit_xor, Nat.testBit_mod_two_pow, Nat.testBit_mod_two_pow]
    by_cases hi : i = k
    · subst hi
      cases hbi : b.testBit i <;> simp
    · by_cases hlt : i < k
      · have : decide (i < k + 1) = true := decide_eq_true (by omega)
        rw [this, decide_eq_true hlt]
        split
        · rw [Nat.testBit_two_pow_of_ne (by omega)]; simp
        · simp
      · rw [decide_eq_false (by omega), decide_eq_false hlt]
        split
        · rw [Nat.testBit_two_pow_of_ne (by omega)]; simp
        · simp
  rw [e]
  split
  · rw [of_xor h1 h2]
  · rw [Nat.xor_zero, add_zero]
end Go.Proofs.Ytfmjodlcjaflfaa.V.B.Tw
namespace Go.Proofs.Ytfmjodlcjaflfaa.V.B
open Go.ChangeShapes Go.WideShapes Go.ChangeAt Go.RowKit Go.Deep
set_option linter.unusedVariables false
set_option linter.unusedSimpArgs false
def goodT (E : Env) (G : (n : Nat) → E.S n → Prop) : (t : Ty) → den E.toTys t → Prop
  | .int k, n => (Lit.int k n).wf = true
  | .bool, _ => True
  | .slice t, l => (∀ x ∈ (l : List (den E.toTys t)), goodT E G t x) ∧ List.length l ≤ maxLen
  | .ptr t, o => match o with
    | none => True
    | some x => goodT E G t x
  | .st n, x => G n x
  | .arr n t, l => List.length l = n ∧ ∀ x ∈ (l : List (den E.toTys t)), goodT E G t x
  | .ext _ _, _ => True
  | .fnv _, _ => True
  | .em, _ => True
def goodL {T : Tys} (Q : (t : Ty) → den T t → Prop) : (ts : List Ty) → HL T ts → Prop
  | [], _ => True
  | [t], x => Q t x.1
  | t :: u :: ts, x => Q t x.1 ∧ goodL Q (u :: ts) x.2
def goodS (E : Env) : Nat → (n : Nat) → E.S n → Prop
  | 0, _, _ => True
  | d + 1, n, x => goodL (goodT E (goodS E d)) (E.fs n) (E.to n x)
/-- Numbers in range, lists of a length that there is. -/
def good (E : Env) (d : Nat) (t : Ty) (x : den E.toTys t) : Prop := goodT E (goodS E d) t x
theorem goodL_cons {T : Tys} {Q : (t : Ty) → den T t → Prop} {t : Ty} {ts : List Ty} {x : HL T (t :: ts)} : goodL Q (t :: ts) x ↔ Q t x.1 ∧ goodL Q ts x.2 := by
  cases ts with
  | nil => exact ⟨fun h => ⟨h, trivial⟩, fun h => h.1⟩
  | cons u ts => exact Iff.rfl
def flatTys (E : Env) : Ty → List Ty
  | .st n => E.fs n
  | t => [t]
def pre : List Ty → List Ty → Option (List Ty)
  | [], l => some l
  | t :: ts, u :: us => if t = u then pre ts us else none
  | _, _ => none
theorem pre_some : ∀ {a b c : List Ty}, pre a b = some c → b = a ++ c
  | [], b, c, h => by cases h; rfl
  | t :: ts, u :: us, c, h => by
    simp only [pre] at h
    split at h
    · rename_i e
      rw [e, pre_some h]; rfl
    · cases h
  | _ :: _, [], _, h => by cases h
def isArr1 : Ty → Bool
  | .arr _ _ => true
  | .ext _ _ => true
  | .fnv _ => true
  | .em => true
  | .slice t => isArr1 t
  | .ptr _ => true
  | _ => false
/-- .. an argument may be an array, too. -/
def isArrA : Ty → Bool
  | .arr _ t => isArr1 t
  | t => isArr1 t
def chkFl (E : Env) (P : Program) (tb : Tab) : List Field → Nat → List Ty → Bool
  | [], _, [] => true
  | f :: fs, off, ts => Nat.beq f.offset off && match lk f.type tb.tys with
    | some ty => !isArr1 ty && match pre (flatTys E ty) ts with
      | some r => chkFl E P tb fs (off + len (flatTys E ty)) r
      | none => false
    | none => false
  | _, _, _ => false
def chkSt (E : Env) (P : Program) (tb : Tab) : List (Nat × Ty) → Bool
  | [] => true
  | (t, .st n) :: r => (match P.underlying t with
    | some (.struct fs) => chkFl E P tb fs.toList 0 (E.fs n)
    | _ => false) && chkSt E P tb r
  | _ :: r => chkSt E P tb r
section
variable {E : Env} {P : Program} {tb : Tab}
theorem chkSt_spec {t n : Nat} : ∀ {l : List (Nat × Ty)}, chkSt E P tb l = true → lk t l = some (.st n) → ∃ fs, P.underlying t = some (.struct fs) ∧ chkFl E P tb fs.toList 0 (E.fs n) = true
  | [], _, h => by cases h
  | (u, ty) :: l, h1, h => by
    simp only [lk] at h
    split at h
    · rename_i e
      cases h
      have e := Nat.eq_of_beq_eq_true e
      subst e
      simp only [chkSt, Bool.and_eq_true] at h1
      have h1 := h1.1
      split at h1
      · exact ⟨_, by assumption, h1⟩
      · cases h1
    · refine chkSt_spec ?_ h
      cases ty <;> first | exact h1 | (simp only [chkSt, Bool.and_eq_true] at h1; exact h1.2)
theorem rvl_app {w : World} {ok : Nat → Prop} {X : XRep E} : ∀ {ts us : List Ty} {x : HL E.toTys ts} {y : HL E.toTys us} {cs ds : List Value}, RVL (Rep X w ok) ts x cs → RVL (Rep X w ok) us y ds → (∀ d, goodL (good E d) ts x) → (∀ d, goodL (good E d) us y) →
    ∃ z : HL E.toTys (ts ++ us), RVL (Rep X w ok) (ts ++ us) z (cs ++ ds) ∧ ∀ d, goodL (good E d) (ts ++ us) z
  | [], us, x, y, cs, ds, h1, h2, g1, g2 => by cases h1; exact ⟨y, h2, g2⟩
  | t :: ts, us, x, y, cs, ds, ⟨v, r, e, a1, a2, a3⟩, h2, g1, g2 => by
    obtain ⟨z, z1, z2⟩ := rvl_app a3 h2 (fun d => (goodL_cons.1 (g1 d)).2) g2
    subst e
    exact ⟨(x.1, z), ⟨v, r ++ ds, rfl, a1, a2, z1⟩, fun d => goodL_cons.2 ⟨(goodL_cons.1 (g1 d)).1, z2 d⟩⟩
variable (hT : ∀ calls, Tie (E := E) (XR E) P (tb.ctx calls)) (hS : chkSt E P tb tb.tys = true)
include hT hS
theorem reads {H : Type} {enc : TypeId × Value → H} {w : World} {base : Nat} {spare : Nat → Bool} {held : Bool} : ∀ (fuel : Nat) {t : Nat} {ty : Ty} {cs : List Value} {x : DataW H × List MemPlace}, lk t tb.tys = some ty → isArr1 ty = false → DataW.trod enc P w base spare held fuel t cs = some x →
    ∃ a : den E.toTys ty, Rep (XR E) w (fun b => b < w.heap.size) ty a cs ∧ ∀ d, good E d ty a := by
  have T := hT (fun _ => none)
  intro fuel
  induction fuel with
  | zero => intro t ty cs x ht hty h; simp [DataW.trod] at h
  | succ fuel ih =>
    intro t ty cs x ht hty h
    obtain ⟨d, hd1, hd2⟩ := T.desc t ty ht
    have cell : ∀ {e : Nat} {u : Ty}, lk e tb.tys = some u → P.cellsOf e = sz E u := by
      intro e u he
      obtain ⟨i, z, h1, _, h3, _⟩ := T.info e u he
      simp [Program.cellsOf, h1, h3]
    cases ty with
    | int k =>
      cases d <;> simp only at hd2
      subst hd2
      obtain ⟨n, rfl, _, hw⟩ := DataW.trod_int hd1 h
      exact ⟨n, Rep.int.2 rfl, fun d => hw⟩
    | bool =>
      cases d <;> simp only at hd2
      obtain ⟨n, rfl, _⟩ := DataW.trod_bool hd1 h
      exact ⟨n, Rep.bool.2 rfl, fun d => trivial⟩
    | slice u =>
      cases d <;> simp only at hd2
      rename_i e
      obtain ⟨he, _⟩ := hd2
      have he : lk e tb.tys = some u := he
      obtain ⟨i0, z0, p1, p2, p3, p4, p5, p6⟩ := T.info e u he
      have hce := cell he
      rcases DataW.trod_slice hd1 h with ⟨rfl, _⟩ | ⟨a, ln, cap, elems, rest, n, hfu, rfl, rfl, hb, hl, hm, hlen, hel, _⟩
      · exact ⟨([] : List (den E.toTys u)), Rep.slice.2 ⟨none, 0, rfl, Nat.le_refl _, fun h => absurd rfl h⟩, fun d => ⟨fun x hx => absurd hx List.not_mem_nil, Nat.zero_le _⟩⟩
      · obtain rfl : fuel = n := by omega
        have hau : isArr1 u = false := hty
        have hex : ∀ i, i < ln → ∃ y : den E.toTys u, ∃ c, Rep (XR E) w (fun b => b < w.heap.size) u y c ∧ (∀ d, good E d u y) ∧ c.length = sz E u ∧ ∀ j v, c[j]? = some v → w.cell? ((a.add (i * sz E u)).add j) = some v := by
          intro i hi
          have := hel i hi
          rw [hce] at this
          have hi' : i < elems.length := by omega
          rw [List.getElem?_eq_getElem hi'] at this
          cases hc : w.cells? base (a.add (i * sz E u)) (sz E u) with
          | none => rw [hc] at this; cases this
          | some c =>
            rw [hc] at this
            simp only [Option.bind_some] at this
            obtain ⟨_, g2, g3⟩ := World.cells?_some hc
            obtain ⟨y, y1, y2⟩ := ih he hau this
            exact ⟨y, c, y1, y2, g2, fun j v hv => by rw [g3 j (by rw [← g2]; exact (List.getElem?_eq_some_iff.1 hv).1)]; exact hv⟩
        have hlen2 : (List.ofFn (fun i : Fin ln => Classical.choose (hex i.1 i.2))).length = ln := List.length_ofFn
        refine ⟨List.ofFn (fun i : Fin ln => Classical.choose (hex i.1 i.2)), Rep.slice.2 ⟨some a, cap, by rw [hlen2], by rw [hlen2]; exact hl, fun hne => ?_⟩, fun d => ⟨fun y hy => ?_, by rw [hlen2]; omega⟩⟩
        · have hpos : 0 < ln := by
            rcases Nat.eq_zero_or_pos ln with h | h
            · subst h; exact absurd (by simp) hne
            · exact h
          obtain ⟨y0, c0, _, _, l0, k0⟩ := hex 0 hpos
          have hc0 : ∃ v, c0[0]? = some v := ⟨c0[0]'(by omega), List.getElem?_eq_getElem _⟩
          obtain ⟨v0, hv0⟩ := hc0
          have hc := k0 0 v0 hv0
          have hadd0 : (a.add (0 * sz E u)).add 0 = a := by simp [Addr.add]
          rw [hadd0] at hc
          have hsp := World.cell?_spot hc
          obtain ⟨b, o, s⟩ := a
          simp only at hsp
          subst hsp
          refine ⟨b, o, rfl, ?_, fun j p hp => ?_⟩
          · unfold World.cell? at hc
            split at hc
            · rename_i hh
              exact (Array.getElem?_eq_some_iff.1 hh).1
            · cases hc
          · obtain ⟨hj, hpj⟩ := List.getElem?_eq_some_iff.1 hp
            rw [List.length_ofFn] at hj
            rw [List.getElem_ofFn] at hpj
            obtain ⟨c, h1, _, h3, h4⟩ := Classical.choose_spec (hex j hj)
            refine ⟨c, by rw [← hpj]; exact h1, fun q v hq => ?_⟩
            have := h4 q v hq
            have e : ((⟨b, o, none⟩ : Addr).add (j * sz E u)).add q = ⟨b, o + j * sz E u + q, none⟩ := by
              unfold Addr.add
              split <;> split <;> simp_all
            rw [e] at this
            exact this
        · obtain ⟨i, rfl⟩ := List.mem_ofFn.1 hy
          obtain ⟨c, _, h2, _⟩ := Classical.choose_spec (hex i.1 i.2)
          exact h2 d
    | ptr u => cases hty
    | st n =>
      obtain ⟨fs, hfs, hfl⟩ := chkSt_spec hS ht
      obtain ⟨xs, m, hfu, _, hcl, hxl, hall⟩ := DataW.trod_struct hfs h
      obtain rfl : fuel = m := by omega
      rw [cell ht] at hcl
      have key : ∀ (l : List Field) (off : Nat) (ts : List Ty), chkFl E P tb l off ts = true → (∀ f ∈ l, ∃ y, DataW.trod enc P w base spare held fuel f.type ((cs.drop f.offset).take (P.cellsOf f.type)) = some y) → off + ts.length = cs.length →
          ∃ z : HL E.toTys ts, RVL (Rep (XR E) w fun b => b < w.heap.size) ts z (cs.drop off) ∧ ∀ d, goodL (good E d) ts z := by
        intro l
        induction l with
        | nil =>
          intro off ts hc _ hlen
          cases ts with
          | nil => exact ⟨(), List.drop_eq_nil_of_le (by simp at hlen; omega), fun d => trivial⟩
          | cons => cases hc
        | cons f l ihl =>
          intro off ts hc hf hlen
          simp only [chkFl, Bool.and_eq_true] at hc
          obtain ⟨ho, hc⟩ := hc
          have ho := Nat.eq_of_beq_eq_true ho
          split at hc
          · rename_i fty hft
            simp only [Bool.and_eq_true, Bool.not_eq_true'] at hc
            obtain ⟨hna, hc⟩ := hc
            split at hc
            · rename_i r hr
              have hts := pre_some hr
              subst hts
              obtain ⟨y, hy⟩ := hf f (by simp)
              rw [ho, cell hft] at hy
              obtain ⟨av, a1, a2⟩ := ih hft hna hy
              have hszl : sz E fty = (flatTys E fty).length := by
                cases fty <;> first | rfl | (simp [sz, flatTys, len_eq]; done) | cases hna
              rw [len_eq] at hc
              rw [List.length_append] at hlen
              obtain ⟨z2, b1, b2⟩ := ihl _ _ hc (fun g hg => hf g (by simp [hg])) (by omega)
              have hone : ∃ z1 : HL E.toTys (flatTys E fty), RVL (Rep (XR E) w fun b => b < w.heap.size) (flatTys E fty) z1 ((cs.drop off).take (sz E fty)) ∧ ∀ d, goodL (good E d) (flatTys E fty) z1 := by
                have single : (∀ n, fty ≠ .st n) → flatTys E fty = [fty] → ∃ z1 : HL E.toTys [fty], RVL (Rep (XR E) w fun b => b < w.heap.size) [fty] z1 ((cs.drop off).take (sz E fty)) ∧ ∀ d, goodL (good E d) [fty] z1 := by
                  intro hns hfl1
                  obtain ⟨dd, hdd⟩ := a1
                  obtain ⟨v, hv, h1v⟩ := RVt.cells hns (by rintro n u rfl; cases hna) hdd
                  rw [hv] at hdd ⊢
                  exact ⟨(av, ()), ⟨v, [], rfl, h1v, ⟨dd, hdd⟩, rfl⟩, fun d => a2 d⟩
                cases fty with
                | st m => exact ⟨E.to m av, Rep.st.1 a1, fun d => a2 (d + 1)⟩
                | arr => cases hna
                | ext => cases hna
                | fnv => cases hna
                | em => cases hna
                | ptr => cases hna
                | _ => exact single (by intro n h; cases h) rfl
              obtain ⟨z1, c1, c2⟩ := hone
              obtain ⟨z, d1, d2⟩ := rvl_app c1 b1 c2 b2
              refine ⟨z, ?_, d2⟩
              rw [hszl, ← List.drop_drop, List.take_append_drop] at d1
              exact d1
            · cases hc
          · cases hc
      obtain ⟨z, z1, z2⟩ := key fs.toList 0 (E.fs n) hfl (fun f hf => by
        obtain ⟨i, hi, rfl⟩ := List.mem_iff_getElem.1 hf
        have h1 := hall i fs.toList[i] (by simp at hi ⊢)
        have hi' : i < xs.length := by rw [hxl]; simpa using hi
        exact ⟨xs[i], by rw [h1, List.getElem?_eq_getElem hi']⟩) (by rw [hcl]; simp [sz, len_eq])
      refine ⟨E.of n z, Rep.st.2 (by rw [E.to_of]; simpa using z1), fun d => ?_⟩
      cases d with
      | zero => trivial
      | succ d =>
        show goodL _ _ (E.to n (E.of n z))
        rw [E.to_of]
        exact z2 d
    | arr n u => cases hty
    | ext n t => cases hty
    | fnv n => cases hty
    | em => cases hty
theorem reads_arr {H : Type} {enc : TypeId × Value → H} {w : World} {base : Nat} {spare : Nat → Bool} {held : Bool} {fuel t n : Nat} {u : Ty} {cs : List Value} {x : DataW H × List MemPlace} (ht : lk t tb.tys = some (.arr n u)) (hu : isArr1 u = false) (h : DataW.trod enc P w base spare held fuel t cs = some x) :
    ∃ a : den E.toTys (.arr n u), Rep (XR E) w (fun b => b < w.heap.size) (.arr n u) a cs ∧ ∀ d, good E d (.arr n u) a := by
  have T := hT (fun _ => none)
  have cell : ∀ {e : Nat} {u : Ty}, lk e tb.tys = some u → P.cellsOf e = sz E u := by
    intro e u he
    obtain ⟨i, z, h1, _, h3, _⟩ := T.info e u he
    simp [Program.cellsOf, h1, h3]
  obtain ⟨d, hd1, hd2⟩ := T.desc t _ ht
  cases d <;> simp only at hd2
  obtain ⟨rfl, he⟩ := hd2
  have he : lk _ tb.tys = some u := he
  obtain ⟨xs, m, hfu, _, hcl, hxl, hall⟩ := DataW.trod_array hd1 h
  have hce := cell he
  rw [cell ht] at hcl
  rw [hce] at hall
  have hex : ∀ i, i < n → ∃ y : den E.toTys u, Rep (XR E) w (fun b => b < w.heap.size) u y ((cs.drop (i * sz E u)).take (sz E u)) ∧ ∀ d, good E d u y := by
    intro i hi
    have h1 := hall i hi
    rw [List.getElem?_eq_getElem (by omega)] at h1
    exact reads hT hS m he hu h1
  have hlen : (List.ofFn (fun i : Fin n => Classical.choose (hex i.1 i.2))).length = n := List.length_ofFn
  refine ⟨List.ofFn (fun i : Fin n => Classical.choose (hex i.1 i.2)), Rep.arr.2 ⟨hlen, hcl, fun j p hp => ?_⟩, fun d => ⟨hlen, fun y hy => ?_⟩⟩
  · have hp : (List.ofFn (fun i : Fin n => Classical.choose (hex i.1 i.2)))[j]? = some p := hp
    obtain ⟨hj, hpj⟩ := List.getElem?_eq_some_iff.1 hp
    rw [List.length_ofFn] at hj
    rw [List.getElem_ofFn] at hpj
    rw [← hpj]
    exact (Classical.choose_spec (hex j hj)).1
  · obtain ⟨i, rfl⟩ := List.mem_ofFn.1 hy
    exact (Classical.choose_spec (hex i.1 i.2)).2 d
/-- An argument of a law. -/
theorem arg_ok {H : Type} {enc : TypeId × Value → H} {W : World} {base base' : Nat} {spare : Nat → Bool} {held : Bool} {t : Nat} {ty : Ty} {v : Value} {dd : DataW H} {ps : List MemPlace} {r : Reach} (ht : lk t tb.tys = some ty) (hty : isArrA ty = false)
    (hv : Value.okWide P W r base' t v) (h : DataW.Trod enc P W base spare held t v dd ps) : ∃ (x : den E.toTys ty) (cs : List Value), v = vOf ty cs ∧ Rep (XR E) W (fun b => b < W.heap.size) ty x cs ∧ ∀ d, good E d ty x := by
  obtain ⟨fuel, hf⟩ := h
  have hr : ∃ a : den E.toTys ty, Rep (XR E) W (fun b => b < W.heap.size) ty a v.cells.toList ∧ ∀ d, good E d ty a := by
    cases ty with
    | arr n u => exact reads_arr hT hS ht hty hf
    | _ => exact reads hT hS fuel ht hty hf
  obtain ⟨x, h1, h2⟩ := hr
  refine ⟨x, v.cells.toList, ?_, h1, h2⟩
  obtain ⟨d, hd1, hd2⟩ := (hT fun _ => none).desc t ty ht
  cases ty with
  | int k => cases d <;> simp only at hd2; obtain ⟨n, rfl⟩ := okWide_int hd1 hv; rfl
  | bool => cases d <;> simp only at hd2; obtain ⟨n, rfl⟩ := okWide_bool hd1 hv; rfl
  | slice u => cases d <;> simp only at hd2; obtain ⟨A, len, cap, rfl⟩ := okWide_slice hd1 hv; rfl
  | st n => cases d <;> simp only at hd2; obtain ⟨cs, rfl, _⟩ := okWide_struct hd1 hv; simp [vOf, Value.cells]
  | ptr u => cases hty
  | arr n u =>
    cases d <;> simp only at hd2
    simp only [Value.okWide, hd1] at hv
    obtain ⟨cs, rfl, _⟩ := hv
    simp [vOf, Value.cells]
  | ext n t => cases hty
  | fnv n => cases hty
  | em => cases hty
omit hT hS
theorem ret_bool {X : XRep E} {w w' : World} {okA : Nat → Prop} {b : Bool} {e : Ending} (h : RetOK X w okA [(false, .bool)] b e w') : e = .returned (.bool b) ∧ Below w.heap.size w w' := by
  obtain ⟨us, os, rfl, hb, ⟨v, o, rfl, rfl, _, cs, h1, rfl⟩, _⟩ := h
  rw [Rep.bool.1 h1]
  exact ⟨rfl, hb⟩
end
end Go.Proofs.Ytfmjodlcjaflfaa.V.B

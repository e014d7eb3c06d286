/- PackvReckons: sums and products of any tensors, and with the sides swapped, or the error; for levels up to 4 and up to 20 parts. Own text. -/
import Derived.Laws.BitsLemmas
import Derived.Test.YtkhmpaooinpfoaaRows
import Derived.WalkKit
import Derived.ProofKit
import Derived.OpenShut
import Derived.ShutString
import Derived.ChangeOld
import Derived.Below
import Derived.SizedLaws
import Derived.Carry
import Derived.Test.YtkhmpaooinpfoaaMPackvReckonsa
import Derived.Test.YtkhmpaooinpfoaaMPackvReckonsb
import Derived.Test.YtkhmpaooinpfoaaMPackvReckonsc
import Derived.Test.YtkhmpaooinpfoaaMPackvReckonsd
import Derived.Test.YtkhmpaooinpfoaaMPackvReckonse
-- Own text: the statement that is left of the law PackvReckons, and what a reading of its arguments is.
namespace Go.Proofs.Ytkhmpaooinpfoaa.Stated.packvReckons
open Go.RowKit Go.Proofs.YtkhmpaooinpfoaaW.PrintWords Go.Proofs.Ytkhmpaooinpfoaa.P Go.Proofs.Ytkhmpaooinpfoaa.Reads
def Pure : Prop := ∀ (x0 : Int) (x1 : List (S30)) (x2 : List (S30)), ((Lit.int .i64 x0).wf = true) → (((∀ x_ ∈ x1, ((Lit.int .u64 x_.f0).wf = true) ∧ ((Lit.int .u64 x_.f1).wf = true)) ∧ x1.length ≤ maxLen)) → (((∀ x_ ∈ x2, ((Lit.int .u64 x_.f0).wf = true) ∧ ((Lit.int .u64 x_.f1).wf = true)) ∧ x2.length ≤ maxLen)) → ∃ k, z3.f k x0 x1 x2 = some true
end Go.Proofs.Ytkhmpaooinpfoaa.Stated.packvReckons
/- Rounds: what is told by enough of them; and the arithmetic of whole numbers as the printed functions spell it. Own text. -/
namespace Go.Proofs.YtkhmpaooinpfoaaW.PrintWords
set_option linter.unusedVariables false
set_option linter.unusedSimpArgs false
namespace Ev
variable {α β : Type}
theorem ret (r : α) : Ev (fun _ => some r) r := ⟨0, fun _ _ => rfl⟩
theorem ret' {a r : α} (h : a = r) : Ev (fun _ => some a) r := h ▸ Ev.ret a
theorem const {o : Option α} {r : α} (h : o = some r) : Ev (fun _ => o) r := ⟨0, fun _ _ => h⟩
theorem pos {c : Prop} [Decidable c] {f g : Nat → Option α} {r : α} (h : c) (k : Ev f r) : Ev (fun n => if c then f n else g n) r := by
  simp only [if_pos h]; exact k
theorem neg {c : Prop} [Decidable c] {f g : Nat → Option α} {r : α} (h : ¬ c) (k : Ev g r) : Ev (fun n => if c then f n else g n) r := by
  simp only [if_neg h]; exact k
theorem bnd {g : Nat → Option α} {f : Nat → α → Option β} {a : α} {r : β} (h : Ev g a) (k : Ev (fun n => f n a) r) : Ev (fun n => (g n).bind (f n)) r := Ev.bind h k
theorem bnd0 {o : Option α} {f : Nat → α → Option β} {a : α} {r : β} (h : o = some a) (k : Ev (fun n => f n a) r) : Ev (fun n => o.bind (f n)) r := Ev.bind (Ev.const h) k
theorem uniq {g : Nat → Option α} {a b : α} (h : Ev g a) (k : Ev g b) : a = b := by
  obtain ⟨K, hK⟩ := h; obtain ⟨L, hL⟩ := k
  have := hK (max K L) (Nat.le_max_left _ _); rw [hL _ (Nat.le_max_right _ _)] at this
  exact (Option.some.inj this).symm
theorem eqn {g : Nat → Option α} {a b : α} (h : Ev g a) (e : a = b) : Ev g b := e ▸ h
end Ev
end Go.Proofs.YtkhmpaooinpfoaaW.PrintWords
namespace Go.Proofs.Ytkhmpaooinpfoaa.Ar
open Go.RowKit Go.Proofs.YtkhmpaooinpfoaaW.PrintWords Go.Proofs.YtkhmpaooinpfoaaW.PrintMore
set_option linter.unusedVariables false
set_option linter.unusedSimpArgs false
theorem i64_id {x : Int} (h0 : -9223372036854775808 ≤ x) (h1 : x ≤ 9223372036854775807) : IntKind.i64.wrap x = x := by rw [IntKind.wrap_i64]; omega
theorem z27 {x : Int} (h0 : -9223372036854775808 ≤ x) (h1 : x ≤ 9223372036854775807) : wrap64 x = x := by unfold wrap64; omega
theorem z1C {i L : Nat} (h : i < L) (hL : L ≤ 4611686018427387904) : wrap64 ((i : Int) + 1) = ((i + 1 : Nat) : Int) := by rw [z27 (by omega) (by omega)]; omega
theorem w64_add {i j : Nat} (h : i ≤ 2305843009213693952) (h' : j ≤ 2305843009213693952) : wrap64 ((i : Int) + (j : Int)) = ((i + j : Nat) : Int) := by rw [z27 (by omega) (by omega)]; omega
theorem w64_sub {i j : Nat} (h : j ≤ i) (h' : i ≤ 4611686018427387904) : wrap64 ((i : Int) - (j : Int)) = ((i - j : Nat) : Int) := by rw [z27 (by omega) (by omega)]; omega
theorem z2V {x : Int} (h0 : 0 ≤ x) (h1 : x < 18446744073709551616) : IntKind.u64.wrap x = x := by
  simp [IntKind.wrap, IntKind.bits, IntKind.signed]; omega
theorem z5c (w : Nat) (h : w ≤ 62) : shl .i64 1 (w : Int) = ((2 ^ w : Nat) : Int) := by
  unfold shl
  have h64 : IntKind.i64.bits = 64 := rfl
  rw [h64, Int.toNat_natCast, Nat.min_eq_left (by omega), Int.one_mul]
  have hp : (2 : Nat) ^ w ≤ 2 ^ 62 := Nat.pow_le_pow_right (by decide) h
  have hc : ((2 : Int) ^ w) = ((2 ^ w : Nat) : Int) := by simp
  rw [hc]
  have h62 : (2 : Nat) ^ 62 = 4611686018427387904 := by decide
  generalize 2 ^ w = p at hp ⊢
  exact i64_id (by omega) (by omega)
theorem z37 (w : Nat) (h : w ≤ 63) : shl .u64 1 (w : Int) = ((2 ^ w : Nat) : Int) := by
  unfold shl
  have h64 : IntKind.u64.bits = 64 := rfl
  rw [h64, Int.toNat_natCast, Nat.min_eq_left (by omega), Int.one_mul]
  have hp : (2 : Nat) ^ w ≤ 2 ^ 63 := Nat.pow_le_pow_right (by decide) h
  have hc : ((2 : Int) ^ w) = ((2 ^ w : Nat) : Int) := by simp
  rw [hc]
  have h63 : (2 : Nat) ^ 63 = 9223372036854775808 := by decide
  generalize 2 ^ w = p at hp ⊢
  exact z2V (by omega) (by omega)
theorem z5d (a w : Nat) (h : w ≤ 64) : shr .u64 (a : Int) (w : Int) = ((a / 2 ^ w : Nat) : Int) := by
  unfold shr
  have h64 : IntKind.u64.bits = 64 := rfl
  rw [h64, Int.toNat_natCast, Nat.min_eq_left h]; simp
theorem shr_i64 (a w : Nat) (h : w ≤ 64) : shr .i64 (a : Int) (w : Int) = ((a / 2 ^ w : Nat) : Int) := by
  unfold shr
  have h64 : IntKind.i64.bits = 64 := rfl
  rw [h64, Int.toNat_natCast, Nat.min_eq_left h]; simp
theorem z4Z (op : BinOp) (a b : Nat) (ha : a < 2 ^ 64) (hb : b < 2 ^ 64) :
    (op = .and → Go.bits op .u64 a b = ((a &&& b : Nat) : Int)) ∧ (op = .or → Go.bits op .u64 a b = ((a ||| b : Nat) : Int)) ∧ (op = .xor → Go.bits op .u64 a b = ((a ^^^ b : Nat) : Int)) := by
  have ha' : a % 2 ^ IntKind.u64.bits = a := Nat.mod_eq_of_lt ha
  have hb' : b % 2 ^ IntKind.u64.bits = b := Nat.mod_eq_of_lt hb
  refine ⟨?_, ?_, ?_⟩ <;> rintro rfl <;> simp only [Go.bits, BitVec.ofInt_natCast, BitVec.toNat_and, BitVec.toNat_or, BitVec.toNat_xor, BitVec.toNat_ofNat, ha', hb']
  · exact z2V (Int.natCast_nonneg _) (by have := Nat.and_lt_two_pow a hb; omega)
  · exact z2V (Int.natCast_nonneg _) (by have := Nat.or_lt_two_pow ha hb; omega)
  · exact z2V (Int.natCast_nonneg _) (by have := Nat.xor_lt_two_pow ha hb; omega)
theorem z2D (a b : Nat) (ha : a < 2 ^ 64) (hb : b < 2 ^ 64) : Go.bits .and .u64 a b = ((a &&& b : Nat) : Int) := (z4Z .and a b ha hb).1 rfl
theorem z6e (a b : Nat) (ha : a < 2 ^ 64) (hb : b < 2 ^ 64) : Go.bits .or .u64 a b = ((a ||| b : Nat) : Int) := (z4Z .or a b ha hb).2.1 rfl
theorem z24 (a b : Nat) (ha : a < 2 ^ 64) (hb : b < 2 ^ 64) : Go.bits .xor .u64 a b = ((a ^^^ b : Nat) : Int) := (z4Z .xor a b ha hb).2.2 rfl
theorem z5o (x w : Nat) (hx : x < 2 ^ 63) (hw : w ≤ 62) : Go.bits .and .i64 (x : Int) (((2 ^ w : Nat) : Int) - 1) = ((x % 2 ^ w : Nat) : Int) := by
  have := Go.bits_mask .i64 63 (by decide) (fun n h0 h1 => i64_id (by omega) (by omega)) w (by omega) (x : Int) (by omega) (by exact_mod_cast hx)
  have hc : (((2 ^ w : Nat) : Int) - 1) = 2 ^ w - 1 := by simp
  rw [hc, this]; simp
theorem two_pow_le {w : Nat} (h : w ≤ 6) : 2 ^ w ≤ 64 := Nat.pow_le_pow_right (n := 2) (by decide) h
theorem wf_i64 {x : Int} (h : (Lit.int .i64 x).wf = true) : -9223372036854775808 ≤ x ∧ x ≤ 9223372036854775807 := by
  simp only [Lit.wf, IntKind.min, IntKind.max, IntKind.signed, IntKind.bits, Bool.and_eq_true, decide_eq_true_eq] at h; simp at h; omega
theorem wf_u64 {x : Int} (h : (Lit.int .u64 x).wf = true) : 0 ≤ x ∧ x < 18446744073709551616 := by
  simp only [Lit.wf, IntKind.min, IntKind.max, IntKind.signed, IntKind.bits, Bool.and_eq_true, decide_eq_true_eq] at h; simp at h; omega
theorem z7A {α : Type} (d : α) (l : List α) (i : Nat) : rdOf d l (i : Int) = l.getD i d := by unfold rdOf; rw [Int.toNat_natCast]
end Go.Proofs.Ytkhmpaooinpfoaa.Ar
/- The tower of fields of characteristic two, as pairs of pairs of bits: its laws. Own text; nothing of the program in it. -/
namespace Go.Proofs.Ytkhmpaooinpfoaa.Tw
set_option linter.unusedVariables false
set_option linter.unusedSimpArgs false

/-- Level n: a bit, or two halves: the higher one and the lower one. -/
def T : Nat → Type
  | 0 => Bool
  | n + 1 => T n × T n
def zero : (n : Nat) → T n
  | 0 => false
  | n + 1 => (zero n, zero n)
def one : (n : Nat) → T n
  | 0 => true
  | n + 1 => (zero n, one n)
/-- The generator. -/
def gen : (n : Nat) → T n
  | 0 => true
  | n + 1 => (one n, zero n)
def add : {n : Nat} → T n → T n → T n
  | 0, a, b => Bool.xor a b
  | _ + 1, a, b => (add a.1 b.1, add a.2 b.2)
def mul : {n : Nat} → T n → T n → T n
  | 0, a, b => Bool.and a b
  | n + 1, a, b => (add (add (mul a.1 b.2) (mul a.2 b.1)) (mul (gen n) (mul a.1 b.1)), add (mul a.2 b.2) (mul a.1 b.1))
instance {n : Nat} : Add (T n) := ⟨add⟩
instance {n : Nat} : Mul (T n) := ⟨mul⟩
instance {n : Nat} : Zero (T n) := ⟨zero n⟩
instance {n : Nat} : One (T n) := ⟨one n⟩
instance : {n : Nat} → DecidableEq (T n)
  | 0 => inferInstanceAs (DecidableEq Bool)
  | n + 1 => let _ : DecidableEq (T n) := instDecidableEqT; inferInstanceAs (DecidableEq (T n × T n))
theorem z45 {n : Nat} (a b : T (n + 1)) : (a + b).1 = a.1 + b.1 := rfl
theorem z4X {n : Nat} (a b : T (n + 1)) : (a + b).2 = a.2 + b.2 := rfl
theorem z2e {n : Nat} (a b : T (n + 1)) : (a * b).1 = (a.1 * b.2 + a.2 * b.1) + gen n * (a.1 * b.1) := rfl
theorem z2f {n : Nat} (a b : T (n + 1)) : (a * b).2 = a.2 * b.2 + a.1 * b.1 := rfl
theorem z42 {n : Nat} : (0 : T (n + 1)).1 = 0 := rfl
theorem z43 {n : Nat} : (0 : T (n + 1)).2 = 0 := rfl
theorem z57 {n : Nat} : (1 : T (n + 1)).1 = 0 := rfl
theorem z58 {n : Nat} : (1 : T (n + 1)).2 = 1 := rfl
theorem z33 {n : Nat} : (gen (n + 1)).1 = 1 := rfl
theorem z34 {n : Nat} : (gen (n + 1)).2 = 0 := rfl
theorem z68 : gen 0 = 1 := rfl
/-- The element of two halves. -/
def mk {n : Nat} (a b : T n) : T (n + 1) := (a, b)
theorem z2A {n : Nat} (a b : T n) : (mk a b).1 = a := rfl
theorem z2L {n : Nat} (a b : T n) : (mk a b).2 = b := rfl
theorem ext {n : Nat} {a b : T (n + 1)} (h1 : a.1 = b.1) (h2 : a.2 = b.2) : a = b := Prod.ext h1 h2

theorem add_comm : {n : Nat} → (a b : T n) → a + b = b + a
  | 0, a, b => Bool.xor_comm a b
  | n + 1, a, b => ext (add_comm a.1 b.1) (add_comm a.2 b.2)
theorem add_assoc : {n : Nat} → (a b c : T n) → a + b + c = a + (b + c)
  | 0, a, b, c => Bool.xor_assoc a b c
  | n + 1, a, b, c => ext (add_assoc a.1 b.1 c.1) (add_assoc a.2 b.2 c.2)
theorem zero_add : {n : Nat} → (a : T n) → 0 + a = a
  | 0, a => Bool.false_xor a
  | n + 1, a => ext (zero_add a.1) (zero_add a.2)
theorem z2h : {n : Nat} → (a : T n) → a + a = 0
  | 0, a => Bool.xor_self a
  | n + 1, a => ext (z2h a.1) (z2h a.2)
theorem add_zero {n : Nat} (a : T n) : a + 0 = a := by rw [add_comm, zero_add]
theorem z25 {n : Nat} (a b c : T n) : a + (b + c) = b + (a + c) := by rw [← add_assoc, add_comm a b, add_assoc]
theorem z5m {n : Nat} (a b : T n) : a + (a + b) = b := by rw [← add_assoc, z2h, zero_add]
theorem z6U {n : Nat} {a b c : T n} (h : a + b = a + c) : b = c := by
  have := congrArg (a + ·) h
  simpa only [z5m] using this
theorem add_eq_zero {n : Nat} {a b : T n} (h : a + b = 0) : a = b := by
  have := congrArg (· + b) h
  simp only [add_assoc, z2h, add_zero, zero_add] at this
  exact this
theorem eq_add_of {n : Nat} {a b c : T n} (h : a + b = c) : a = c + b := by rw [← h, add_assoc, z2h, add_zero]

/-- The laws of products, all at once. -/
structure Laws (n : Nat) : Prop where
  comm : ∀ a b : T n, a * b = b * a
  zero_mul : ∀ a : T n, 0 * a = 0
  one_mul : ∀ a : T n, 1 * a = a
  mul_add : ∀ a b c : T n, a * (b + c) = a * b + a * c
  assoc : ∀ a b c : T n, a * b * c = a * (b * c)
theorem laws : (n : Nat) → Laws n
  | 0 => ⟨Bool.and_comm, Bool.false_and, Bool.true_and, by intro a b c; cases a <;> cases b <;> cases c <;> rfl, Bool.and_assoc⟩
  | n + 1 => by
    obtain ⟨comm, zmul, omul, madd, massoc⟩ := laws n
    have addm : ∀ a b c : T n, (a + b) * c = a * c + b * c := fun a b c => by rw [comm, madd, comm c a, comm c b]
    have mulz : ∀ a : T n, a * 0 = 0 := fun a => by rw [comm, zmul]
    have mulo : ∀ a : T n, a * 1 = a := fun a => by rw [comm, omul]
    have lcomm : ∀ a b c : T n, a * (b * c) = b * (a * c) := fun a b c => by rw [← massoc, comm a b, massoc]
    refine ⟨fun a b => ext ?_ ?_, fun a => ext ?_ ?_, fun a => ext ?_ ?_, fun a b c => ext ?_ ?_, fun a b c => ext ?_ ?_⟩
    · simp only [z2e]; rw [comm a.1 b.2, comm a.2 b.1, comm a.1 b.1, add_comm (b.2 * a.1)]
    · simp only [z2f]; rw [comm a.2 b.2, comm a.1 b.1]
    · simp only [z2e, z42, z43, zmul, mulz, add_zero]
    · simp only [z2f, z42, z43, zmul, mulz, add_zero]
    · simp only [z2e, z57, z58, zmul, mulz, omul, add_zero, zero_add]
    · simp only [z2f, z57, z58, zmul, mulz, omul, add_zero, zero_add]
    · simp only [z2e, z45, z4X, madd, addm, add_assoc, z25, add_comm]
    · simp only [z2f, z45, z4X, madd, addm, add_assoc, z25, add_comm]
    · simp only [z2e, z2f, madd, addm, massoc, lcomm, comm, add_assoc, z25, add_comm]
    · simp only [z2e, z2f, madd, addm, massoc, lcomm, comm, add_assoc, z25, add_comm]
section
variable {n : Nat} (a b c d : T n)
theorem mul_comm : a * b = b * a := (laws n).comm a b
theorem mul_assoc : a * b * c = a * (b * c) := (laws n).assoc a b c
theorem mul_left_comm : a * (b * c) = b * (a * c) := by rw [← mul_assoc, mul_comm a b, mul_assoc]
theorem zero_mul : 0 * a = 0 := (laws n).zero_mul a
theorem z2B : a * 0 = 0 := by rw [mul_comm, zero_mul]
theorem one_mul : 1 * a = a := (laws n).one_mul a
theorem mul_one : a * 1 = a := by rw [mul_comm, one_mul]
theorem mul_add : a * (b + c) = a * b + a * c := (laws n).mul_add a b c
theorem add_mul : (a + b) * c = a * c + b * c := by rw [mul_comm, mul_add, mul_comm c a, mul_comm c b]
theorem add_sq : (a + b) * (a + b) = a * a + b * b := by
  rw [mul_add, add_mul, add_mul, mul_comm b a, add_assoc, ← add_assoc (a * b), z2h, zero_add]
end
end Go.Proofs.Ytkhmpaooinpfoaa.Tw
/- Elements of the tower as numbers: bits of the lower half first. Own text; nothing of the program in it. -/
namespace Go.Proofs.Ytkhmpaooinpfoaa.Tw
set_option linter.unusedVariables false
set_option linter.unusedSimpArgs false
/-- How many words of bits an element of a level is: 2 to the power 2^n. -/
def Q (n : Nat) : Nat := 2 ^ 2 ^ n
theorem z2H (n : Nat) : 0 < Q n := Nat.two_pow_pos _
theorem z2Y (n : Nat) : Q (n + 1) = Q n * Q n := by unfold Q; rw [← Nat.pow_add, Nat.pow_succ 2 n, Nat.mul_two]
theorem z6M (n : Nat) : Q n ≤ Q (n + 1) := by rw [z2Y]; exact Nat.le_mul_of_pos_left _ (z2H n)
theorem z3n {m n : Nat} (h : m ≤ n) : Q m ≤ Q n := Nat.pow_le_pow_right (by decide) (Nat.pow_le_pow_right (by decide) h)
theorem z6p : Q 6 = 2 ^ 64 := rfl
theorem z5O : Q 7 = 2 ^ 128 := rfl
def val : {n : Nat} → T n → Nat
  | 0, a => Bool.toNat a
  | n + 1, a => val a.1 * Q n + val a.2
def of : (n : Nat) → Nat → T n
  | 0, x => x % 2 == 1
  | n + 1, x => mk (of n (x / Q n)) (of n (x % Q n))
theorem val_zero_lvl (a : T 0) : val a = Bool.toNat a := rfl
theorem z1N {n : Nat} (a : T (n + 1)) : val a = val a.1 * Q n + val a.2 := rfl
theorem z2g (n x : Nat) : of (n + 1) x = mk (of n (x / Q n)) (of n (x % Q n)) := rfl
theorem z1r : {n : Nat} → (a : T n) → val a < Q n
  | 0, a => by cases a <;> decide
  | n + 1, a => by
    rw [z1N, z2Y]
    have h1 := z1r a.1
    have h2 := z1r a.2
    have h3 : val a.1 * Q n + Q n ≤ Q n * Q n := by
      have := Nat.mul_le_mul_right (Q n) h1
      rw [Nat.succ_mul] at this; exact this
    omega
theorem val_div {n : Nat} (a : T (n + 1)) : val a / Q n = val a.1 := by
  rw [z1N, Nat.mul_comm, Nat.mul_add_div (z2H n), Nat.div_eq_of_lt (z1r a.2), Nat.add_zero]
theorem val_mod {n : Nat} (a : T (n + 1)) : val a % Q n = val a.2 := by
  rw [z1N, Nat.mul_comm, Nat.mul_add_mod, Nat.mod_eq_of_lt (z1r a.2)]
theorem z1Z : {n : Nat} → (a : T n) → of n (val a) = a
  | 0, a => by cases a <;> rfl
  | n + 1, a => by rw [z2g, val_div, val_mod, z1Z a.1, z1Z a.2]; rfl
theorem z2c : (n : Nat) → (x : Nat) → x < Q n → val (of n x) = x
  | 0, x, h => by
    have h' : x < 2 := h
    have : x = 0 ∨ x = 1 := by omega
    rcases this with rfl | rfl <;> rfl
  | n + 1, x, h => by
    rw [z2g, z1N, z2A, z2L]
    rw [z2Y] at h
    rw [z2c n _ (Nat.div_lt_of_lt_mul h), z2c n _ (Nat.mod_lt _ (z2H n)), Nat.mul_comm]
    exact Nat.div_add_mod x (Q n)
theorem z2S {n : Nat} {a b : T n} (h : val a = val b) : a = b := by rw [← z1Z a, h, z1Z]
theorem z1E : (n : Nat) → val (0 : T n) = 0
  | 0 => rfl
  | n + 1 => by rw [z1N, z42, z43, z1E n, Nat.zero_mul]
theorem z2T : (n : Nat) → val (1 : T n) = 1
  | 0 => rfl
  | n + 1 => by rw [z1N, z57, z58, z1E n, z2T n, Nat.zero_mul]
theorem z35 (n : Nat) : of n 0 = 0 := by rw [← z1E n, z1Z]
theorem of_one (n : Nat) : of n 1 = 1 := by rw [← z2T n, z1Z]
theorem val_eq_zero {n : Nat} {a : T n} : val a = 0 ↔ a = 0 := ⟨fun h => z2S (h.trans (z1E n).symm), fun h => by rw [h, z1E]⟩
theorem z6n {n a b c d : Nat} (hb : b < Q n) (hd : d < Q n) : (a * Q n + b) ^^^ (c * Q n + d) = (a ^^^ c) * Q n + (b ^^^ d) := by
  have h1 : ((a * Q n + b) ^^^ (c * Q n + d)) / Q n = a ^^^ c := by
    unfold Q at *
    rw [Nat.xor_div_two_pow, Nat.mul_comm a, Nat.mul_comm c, Nat.mul_add_div (Nat.two_pow_pos _), Nat.mul_add_div (Nat.two_pow_pos _), Nat.div_eq_of_lt hb, Nat.div_eq_of_lt hd]; rfl
  have h2 : ((a * Q n + b) ^^^ (c * Q n + d)) % Q n = b ^^^ d := by
    unfold Q at *
    rw [Nat.xor_mod_two_pow, Nat.mul_comm a, Nat.mul_comm c, Nat.mul_add_mod, Nat.mul_add_mod, Nat.mod_eq_of_lt hb, Nat.mod_eq_of_lt hd]
  have := Nat.div_add_mod ((a * Q n + b) ^^^ (c * Q n + d)) (Q n)
  rw [h1, h2, Nat.mul_comm] at this
  exact this.symm
theorem z1M : {n : Nat} → (a b : T n) → val (a + b) = val a ^^^ val b
  | 0, a, b => by cases a <;> cases b <;> rfl
  | n + 1, a, b => by
    rw [z1N, z1N, z1N, z45, z4X, z1M a.1 b.1, z1M a.2 b.2, z6n (z1r _) (z1r _)]
theorem z2t {n x y : Nat} (hx : x < Q n) (hy : y < Q n) : x ^^^ y < Q n := Nat.xor_lt_two_pow hx hy
theorem z7o {n x y : Nat} (hx : x < Q n) (hy : y < Q n) : of n (x ^^^ y) = of n x + of n y :=
  z2S (by rw [z2c _ _ (z2t hx hy), z1M, z2c _ _ hx, z2c _ _ hy])
/-- A number of a lower level: the higher half is 0. -/
theorem z5w {n x : Nat} (h : x < Q n) : of (n + 1) x = mk 0 (of n x) := by
  rw [z2g, Nat.div_eq_of_lt h, Nat.mod_eq_of_lt h, z35]
/-- One level up. -/
def up {n : Nat} (a : T n) : T (n + 1) := mk 0 a
theorem z3j {n : Nat} (a : T n) : (up a).1 = 0 := rfl
theorem z4O {n : Nat} (a : T n) : (up a).2 = a := rfl
theorem val_up {n : Nat} (a : T n) : val (up a) = val a := by rw [z1N, z3j, z4O, z1E, Nat.zero_mul, Nat.zero_add]
theorem up_add {n : Nat} (a b : T n) : up (a + b) = up a + up b := ext (by rw [z45, z3j, z3j, z3j, add_zero]) rfl
theorem up_mul {n : Nat} (a b : T n) : up (a * b) = up a * up b :=
  ext (by simp only [z2e, z3j, z4O, zero_mul, z2B, add_zero]) (by simp only [z2f, z3j, z4O, zero_mul, add_zero])
theorem z3F {n : Nat} (a : T n) (b : T (n + 1)) : up a * b = mk (a * b.1) (a * b.2) :=
  ext (by simp only [z2e, z3j, z4O, zero_mul, z2B, add_zero, zero_add, z2A]) (by simp only [z2f, z3j, z4O, zero_mul, add_zero, z2L])
theorem up_zero (n : Nat) : up (0 : T n) = 0 := rfl
theorem up_one (n : Nat) : up (1 : T n) = 1 := rfl
theorem up_inj {n : Nat} {a b : T n} (h : up a = up b) : a = b := congrArg (fun x : T (n + 1) => x.2) h
/-- Many levels up. -/
def ups {n : Nat} : (d : Nat) → T n → T (n + d)
  | 0, a => a
  | d + 1, a => up (ups d a)
theorem ups_add {n : Nat} (a b : T n) : (d : Nat) → ups d (a + b) = ups d a + ups d b
  | 0 => rfl
  | d + 1 => by show up (ups d (a + b)) = _; rw [ups_add a b d, up_add]; rfl
theorem z7J {n : Nat} (a b : T n) : (d : Nat) → ups d (a * b) = ups d a * ups d b
  | 0 => rfl
  | d + 1 => by show up (ups d (a * b)) = _; rw [z7J a b d, up_mul]; rfl
theorem z4t {n : Nat} (a : T n) : (d : Nat) → val (ups d a) = val a
  | 0 => rfl
  | d + 1 => by show val (up (ups d a)) = _; rw [val_up, z4t a d]
theorem ups_zero {n : Nat} (d : Nat) : ups d (0 : T n) = 0 := z2S (by rw [z4t, z1E, z1E])
theorem ups_one {n : Nat} (d : Nat) : ups d (1 : T n) = 1 := z2S (by rw [z4t, z2T, z2T])
theorem ups_of {n d x : Nat} (h : x < Q n) : ups d (of n x) = of (n + d) x := z2S (by rw [z4t, z2c _ _ h, z2c _ _ (Nat.lt_of_lt_of_le h (z3n (Nat.le_add_right _ _)))])
/-- Products of numbers of a lower level are of it. -/
theorem z4s {n d x y : Nat} (hx : x < Q n) (hy : y < Q n) : val (of (n + d) x * of (n + d) y) = val (of n x * of n y) := by
  rw [← ups_of hx, ← ups_of hy, ← z7J, z4t]
theorem z3z {l m x y : Nat} (h : l ≤ m) (hx : x < Q l) (hy : y < Q l) : val (of m x * of m y) = val (of l x * of l y) := by
  obtain ⟨d, rfl⟩ := Nat.le.dest h
  exact z4s hx hy
theorem z6E {l m x y : Nat} (h : l ≤ m) (hx : x < Q l) (hy : y < Q l) : val (of m x * of m y) < Q l := by
  rw [z3z h hx hy]; exact z1r _
end Go.Proofs.Ytkhmpaooinpfoaa.Tw
/- What the functions of layers 1 and 2 on elements tell. Own text. -/
namespace Go.Proofs.Ytkhmpaooinpfoaa.Sp
open Go.RowKit Go.Proofs.YtkhmpaooinpfoaaW.PrintWords Go.Proofs.YtkhmpaooinpfoaaW.PrintMore Go.Proofs.Ytkhmpaooinpfoaa.P Go.Proofs.Ytkhmpaooinpfoaa.Ar Go.Proofs.Ytkhmpaooinpfoaa.Tw
set_option linter.unusedVariables false
set_option linter.unusedSimpArgs false
theorem z44 {n : Nat} (h : n ≤ 6) : Q n ≤ 2 ^ 64 := z3n h
theorem Q_dvd {n : Nat} : Q n = 2 ^ 2 ^ n := rfl
theorem z2b {n : Nat} (h : n ≤ 5) : 2 ^ n ≤ 32 := Nat.pow_le_pow_right (n := 2) (by decide) h
theorem z41 {l : Nat} (h : l + 1 ≤ 1000) : wrap64 (((l + 1 : Nat) : Int) - 1) = (l : Int) := by rw [z27 (by omega) (by omega)]; omega
theorem z4T {n : Nat} (h : n ≤ 5) : Q n < 2 ^ 64 := Nat.pow_lt_pow_right (by decide) (by have := z2b h; omega)
theorem z49 {l : Nat} (hl : l ≤ 5) (x : Nat) (hx : x < 2 ^ 64) : z1u.f ((l + 1 : Nat) : Int) (x : Int) = some (((x / Q l : Nat) : Int), ((x % Q l : Nat) : Int)) := by
  unfold z1u.f
  have h32 := z2b hl
  have hQ := z4T hl
  have hm : IntKind.u64.wrap (((2 ^ 2 ^ l : Nat) : Int) - 1) = ((2 ^ 2 ^ l - 1 : Nat) : Int) := by
    have := Nat.two_pow_pos (2 ^ l)
    unfold Q at hQ
    generalize 2 ^ 2 ^ l = q at *
    rw [z2V (by omega) (by omega)]; omega
  rw [z41 (by omega), if_pos (Int.natCast_nonneg _), z5c l (by omega), if_pos (Int.natCast_nonneg _), z5d x (2 ^ l) (by omega), z37 (2 ^ l) (by omega), hm]
  rw [z2D x _ hx (by have := Nat.two_pow_pos (2 ^ l); unfold Q at hQ; omega), Nat.and_two_pow_sub_one_eq_mod]
  rfl
theorem z7f {l : Nat} (hl : l ≤ 5) (h x : Nat) (hh : h < Q l) (hx : x < Q l) : z1w.f ((l + 1 : Nat) : Int) (h : Int) (x : Int) = some ((h * Q l + x : Nat) : Int) := by
  unfold z1w.f
  have h32 := z2b hl
  have hQ := z4T hl
  have h6 : Q (l + 1) ≤ 2 ^ 64 := z44 (by omega)
  have hhx : h * Q l + Q l ≤ Q (l + 1) := by
    rw [z2Y]
    have := Nat.mul_le_mul_right (Q l) hh
    rw [Nat.succ_mul] at this; exact this
  have hs : shl .u64 (h : Int) (((2 ^ l : Nat) : Int)) = ((h * Q l : Nat) : Int) := by
    unfold shl
    have h64 : IntKind.u64.bits = 64 := rfl
    rw [h64, Int.toNat_natCast, Nat.min_eq_left (by omega)]
    have hc : ((h : Int) * 2 ^ 2 ^ l) = ((h * Q l : Nat) : Int) := by unfold Q; simp
    rw [hc]
    have : h * Q l < 2 ^ 64 := by omega
    generalize h * Q l = z at *
    exact z2V (by omega) (by omega)
  rw [z41 (by omega), if_pos (by omega), z37 l (by omega), hs, z6e _ _ (by omega) (by omega)]
  congr 2
  unfold Q at *
  rw [Nat.mul_comm, ← Nat.two_pow_add_eq_or_of_lt hx]
theorem z7m : ∀ (l : Nat), l ≤ 6 → ∀ (x : Nat), x < Q l → Ev (fun k => zV.f k (l : Int) (x : Int)) ((val (gen l * of l x) : Nat) : Int) := by
  intro l
  induction l with
  | zero =>
    intro _ x hx
    refine Ev.step (fun k => by rw [zV.f]) (Ev.pos (by rfl) (Ev.ret' ?_))
    rw [z68, one_mul, z2c 0 x hx]
  | succ l ih =>
    intro hl x hx
    have hx64 : x < 2 ^ 64 := Nat.lt_of_lt_of_le hx (z44 hl)
    have hd : x / Q l < Q l := Nat.div_lt_of_lt_mul (by rw [← z2Y]; exact hx)
    have hm : x % Q l < Q l := Nat.mod_lt _ (z2H l)
    have hQ := z4T (n := l) (by omega)
    refine Ev.step (fun k => by rw [zV.f]) (Ev.neg (by omega) (Ev.bnd0 (z49 (by omega) x hx64) ?_))
    simp only [z41 (show l + 1 ≤ 1000 by omega)]
    refine Ev.bnd (ih (by omega) _ hd) ?_
    have hv := z1r (gen l * of l (x / Q l))
    simp only [z24 _ _ (Nat.lt_trans hm hQ) (Nat.lt_trans hv hQ)]
    refine Ev.bnd0 (z7f (by omega) _ _ (z2t hm hv) hd) (Ev.ret' ?_)
    congr 1
    rw [z1N (gen (l + 1) * of (l + 1) x)]
    congr 1
    · congr 1
      have e : (gen (l + 1) * of (l + 1) x).1 = of l (x % Q l) + gen l * of l (x / Q l) := by
        rw [z2e, z33, z34, one_mul, zero_mul, one_mul, add_zero]; rfl
      rw [e, z1M, z2c _ _ hm]
    · have e : (gen (l + 1) * of (l + 1) x).2 = of l (x / Q l) := by
        rw [z2f, z33, z34, one_mul, zero_mul, zero_add]; rfl
      rw [e, z2c _ _ hd]
theorem karatsuba {n : Nat} (a1 a0 b1 b0 z : T n) : (a1 + a0) * (b1 + b0) + a1 * b1 + a0 * b0 + z = (a1 * b0 + a0 * b1) + z := by
  have : (a1 + a0) * (b1 + b0) + a1 * b1 + a0 * b0 = a1 * b0 + a0 * b1 := by
    simp only [mul_add, add_mul]
    have : ∀ p q r s : T n, p + q + (r + s) + p + s = q + r := fun p q r s => by
      rw [add_comm p q, add_assoc, add_assoc, add_assoc]
      rw [show p + (r + s + (p + s)) = (p + p) + (r + (s + s)) by simp only [add_assoc, z25, add_comm]]
      rw [z2h, z2h, zero_add, add_zero]
    rw [show a1 * b1 + a0 * b1 + (a1 * b0 + a0 * b0) = a1 * b1 + a0 * b1 + (a1 * b0 + a0 * b0) from rfl, this, add_comm]
  rw [this]
theorem z6c : ∀ (l : Nat), l ≤ 6 → ∀ (x y : Nat), x < Q l → y < Q l → Ev (fun k => zz.f k (l : Int) (x : Int) (y : Int)) ((val (of l x * of l y) : Nat) : Int) := by
  intro l
  have hz : ∀ (l : Nat), l ≤ 6 → ∀ (x y : Nat), x < Q l → y < Q l → (l = 0 ∨ x = 0 ∨ y = 0) → Ev (fun k => zz.j0 k (l : Int) (x : Int) (y : Int) true) ((val (of l x * of l y) : Nat) : Int) := by
    intro l hl x y hx hy h
    have hQ := z44 hl
    refine Ev.step (fun k => by rw [zz.j0]) (Ev.pos rfl (Ev.ret' ?_))
    rw [z2D x y (by omega) (by omega)]
    have hxy : x &&& y < 2 ^ 64 := Nat.and_lt_two_pow _ (by omega)
    rw [show (1 : Int) = ((1 : Nat) : Int) from rfl, z2D _ 1 hxy (by decide)]
    congr 1
    rcases h with rfl | rfl | rfl
    · have h1 : x < 2 := hx
      have h2 : y < 2 := hy
      rcases (by omega : x = 0 ∨ x = 1) with rfl | rfl <;> rcases (by omega : y = 0 ∨ y = 1) with rfl | rfl <;> rfl
    · rw [z35, zero_mul, z1E]; simp
    · rw [z35, z2B, z1E]; simp
  induction l with
  | zero =>
    intro hl x y hx hy
    exact Ev.step (fun k => by rw [zz.f]) (Ev.pos (by rfl) (hz 0 hl x y hx hy (Or.inl rfl)))
  | succ l ih =>
    intro hl x y hx hy
    refine Ev.step (fun k => by rw [zz.f]) (Ev.neg (by omega) ?_)
    by_cases hx0 : x = 0
    · exact Ev.pos (by omega) (hz (l + 1) hl x y hx hy (Or.inr (Or.inl hx0)))
    refine Ev.neg (by omega) ?_
    by_cases hy0 : y = 0
    · rw [show ((y : Int) == 0) = true by simp [hy0]]
      exact hz (l + 1) hl x y hx hy (Or.inr (Or.inr hy0))
    rw [show ((y : Int) == 0) = false by simp [hy0]]
    have hQ := z4T (n := l) (by omega)
    have hx64 : x < 2 ^ 64 := Nat.lt_of_lt_of_le hx (z44 hl)
    have hy64 : y < 2 ^ 64 := Nat.lt_of_lt_of_le hy (z44 hl)
    have hxd : x / Q l < Q l := Nat.div_lt_of_lt_mul (by rw [← z2Y]; exact hx)
    have hxm : x % Q l < Q l := Nat.mod_lt _ (z2H l)
    have hyd : y / Q l < Q l := Nat.div_lt_of_lt_mul (by rw [← z2Y]; exact hy)
    have hym : y % Q l < Q l := Nat.mod_lt _ (z2H l)
    have hl5 : l ≤ 5 := by omega
    refine Ev.step (fun k => by rw [zz.j0]) (Ev.neg (by decide) (Ev.bnd0 (z49 hl5 x hx64) (Ev.bnd0 (z49 hl5 y hy64) ?_)))
    simp only [z41 (show l + 1 ≤ 1000 by omega)]
    refine Ev.bnd (ih (by omega) _ _ hxd hyd) (Ev.bnd (ih (by omega) _ _ hxm hym) ?_)
    simp only [z24 _ _ (Nat.lt_trans hxd hQ) (Nat.lt_trans hxm hQ), z24 _ _ (Nat.lt_trans hyd hQ) (Nat.lt_trans hym hQ)]
    refine Ev.bnd (ih (by omega) _ _ (z2t hxd hxm) (z2t hyd hym)) ?_
    have v1 := z1r (of l (x / Q l) * of l (y / Q l))
    have v2 := z1r (of l (x % Q l) * of l (y % Q l))
    have v3 := z1r (of l (x / Q l ^^^ x % Q l) * of l (y / Q l ^^^ y % Q l))
    refine Ev.bnd (z7m l (by omega) _ v1) ?_
    have v4 := z1r (gen l * of l (val (of l (x / Q l) * of l (y / Q l))))
    simp only [z24 _ _ (Nat.lt_trans v3 hQ) (Nat.lt_trans v1 hQ), z24 _ _ (Nat.lt_trans (z2t v3 v1) hQ) (Nat.lt_trans v2 hQ), z24 _ _ (Nat.lt_trans (z2t (z2t v3 v1) v2) hQ) (Nat.lt_trans v4 hQ), z24 _ _ (Nat.lt_trans v2 hQ) (Nat.lt_trans v1 hQ)]
    refine Ev.bnd0 (z7f (by omega) _ _ (z2t (z2t (z2t v3 v1) v2) v4) (z2t v2 v1)) (Ev.ret' ?_)
    congr 1
    rw [z1N (of (l + 1) x * of (l + 1) y)]
    congr 1
    · congr 1
      rw [z2e, z2g, z2g, z2A, z2L, z2A, z2L, ← karatsuba, z1M, z1M, z1M, z7o hxd hxm, z7o hyd hym, z1Z]
    · rw [z2f, z2g, z2g, z2A, z2L, z2A, z2L, z1M]
end Go.Proofs.Ytkhmpaooinpfoaa.Sp
/- Elements of the greatest level, as the program and the document hold them: two words. Own text. -/
namespace Go.Proofs.Ytkhmpaooinpfoaa.Sp
open Go.RowKit Go.Proofs.YtkhmpaooinpfoaaW.PrintWords Go.Proofs.YtkhmpaooinpfoaaW.PrintMore Go.Proofs.Ytkhmpaooinpfoaa.P Go.Proofs.Ytkhmpaooinpfoaa.Ar Go.Proofs.Ytkhmpaooinpfoaa.Tw
set_option linter.unusedVariables false
set_option linter.unusedSimpArgs false
abbrev E := T 7
/-- The higher and the lower word. -/
def hi (x : E) : Int := ((val x.1 : Nat) : Int)
def lo (x : E) : Int := ((val x.2 : Nat) : Int)
def el (h l : Int) : E := mk (of 6 h.toNat) (of 6 l.toNat)
theorem hi_el {h l : Int} (h0 : 0 ≤ h) (h1 : h < 18446744073709551616) : hi (el h l) = h := by
  unfold hi el; rw [z2A, z2c 6 _ (by rw [z6p]; omega)]; omega
theorem lo_el {h l : Int} (h0 : 0 ≤ l) (h1 : l < 18446744073709551616) : lo (el h l) = l := by
  unfold lo el; rw [z2L, z2c 6 _ (by rw [z6p]; omega)]; omega
theorem z69 {x y : E} (h : hi x = hi y) (l : lo x = lo y) : x = y := by
  unfold hi lo at *; exact ext (z2S (by omega)) (z2S (by omega))
theorem z2E : hi 0 = 0 := by unfold hi; rw [z42, z1E]; rfl
theorem z2G : lo 0 = 0 := by unfold lo; rw [z43, z1E]; rfl
theorem hi_one : hi 1 = 0 := by unfold hi; rw [z57, z1E]; rfl
theorem lo_one : lo 1 = 1 := by unfold lo; rw [z58, z2T]; rfl
theorem hi_bd (x : E) : 0 ≤ hi x ∧ hi x < 18446744073709551616 := by
  unfold hi; have := z1r x.1; rw [z6p] at this; omega
theorem z6u (x : E) : 0 ≤ lo x ∧ lo x < 18446744073709551616 := by
  unfold lo; have := z1r x.2; rw [z6p] at this; omega
theorem z4r (x : E) : val x = (hi x).toNat * 18446744073709551616 + (lo x).toNat := by
  unfold hi lo; rw [z1N, z6p]; simp
theorem eq_zero_iff (x : E) : x = 0 ↔ hi x = 0 ∧ lo x = 0 := ⟨fun h => by rw [h]; exact ⟨z2E, z2G⟩, fun h => z69 (h.1.trans z2E.symm) (h.2.trans z2G.symm)⟩
theorem xor_hi (x y : E) : Go.bits .xor .u64 (hi x) (hi y) = hi (x + y) := by
  unfold hi; rw [z24 _ _ (z1r x.1) (z1r y.1), z45, z1M]
theorem xor_lo (x y : E) : Go.bits .xor .u64 (lo x) (lo y) = lo (x + y) := by
  unfold lo; rw [z24 _ _ (z1r x.2) (z1r y.2), z4X, z1M]
/-- Of a level. -/
def InL (l : Nat) (x : E) : Prop := val x < Q l
instance (l : Nat) (x : E) : Decidable (InL l x) := by unfold InL; infer_instance
def OfS (L : Int) (x : E) : Prop := 0 ≤ L ∧ L ≤ 7 ∧ InL L.toNat x
instance (L : Int) (x : E) : Decidable (OfS L x) := by unfold OfS; infer_instance
theorem z7d (x : E) : InL 7 x := z1r x
theorem z54 (l : Nat) : InL l 0 := by unfold InL; rw [z1E]; exact z2H l
theorem z7c (l : Nat) : InL l 1 := by unfold InL; rw [z2T]; exact Nat.lt_of_lt_of_le (by decide : 1 < Q 0) (z3n (Nat.zero_le _))
theorem inL_mono {l m : Nat} (h : l ≤ m) {x : E} (hx : InL l x) : InL m x := Nat.lt_of_lt_of_le hx (z3n h)
theorem z52 {l : Nat} {x y : E} (hx : InL l x) (hy : InL l y) : InL l (x + y) := by
  unfold InL at *; rw [z1M]; exact z2t hx hy
theorem z4a {l : Nat} (hl : l ≤ 7) {x y : E} (hx : InL l x) (hy : InL l y) : InL l (x * y) := by
  unfold InL at *; have := z6E hl hx hy; rwa [z1Z, z1Z] at this
theorem z7e {x : E} : InL 6 x ↔ hi x = 0 := by
  unfold InL; have h := z4r x; have h1 := hi_bd x; have h2 := z6u x
  rw [z6p, h]; constructor <;> intro g <;> omega
theorem z53 {l : Nat} (hl : l ≤ 6) {x : E} : InL l x ↔ hi x = 0 ∧ (lo x).toNat < Q l := by
  constructor
  · intro h
    have h6 := z7e.1 (inL_mono hl h)
    refine ⟨h6, ?_⟩
    unfold InL at h; rw [z4r, h6] at h; simpa using h
  · rintro ⟨h1, h2⟩
    unfold InL; rw [z4r, h1]; simpa using h2
theorem z5v (L : Int) (x : E) : Ev (fun k => zM.f k L (hi x) (lo x)) (decide (OfS L x)) := by
  unfold zM.f
  by_cases h0 : L < 0
  · refine Ev.pos h0 (Ev.step (fun k => by rw [zM.j0]) (Ev.pos rfl (Ev.ret' ?_)))
    symm; rw [decide_eq_false_iff_not]; rintro ⟨h, _⟩; omega
  refine Ev.neg h0 ?_
  by_cases h7 : L > 7
  · rw [decide_eq_true h7]
    refine Ev.step (fun k => by rw [zM.j0]) (Ev.pos rfl (Ev.ret' ?_))
    symm; rw [decide_eq_false_iff_not]; rintro ⟨_, h, _⟩; omega
  rw [decide_eq_false h7]
  refine Ev.step (fun k => by rw [zM.j0]) (Ev.neg (by decide) ?_)
  obtain ⟨l, rfl⟩ := Int.eq_ofNat_of_zero_le (show 0 ≤ L by omega)
  have hS : OfS (l : Int) x ↔ InL l x := by
    unfold OfS; rw [Int.toNat_natCast]; exact ⟨fun h => h.2.2, fun h => ⟨by omega, by omega, h⟩⟩
  by_cases c7 : (l : Int) = 7
  · refine Ev.pos c7 (Ev.ret' ?_)
    have : l = 7 := by omega
    subst this
    symm; rw [decide_eq_true_eq, hS]; exact z7d x
  refine Ev.neg c7 ?_
  by_cases c6 : (l : Int) = 6
  · refine Ev.pos c6 (Ev.ret' ?_)
    have : l = 6 := by omega
    subst this
    rw [Bool.eq_iff_iff, beq_iff_eq, decide_eq_true_eq, hS]; exact z7e.symm
  refine Ev.neg c6 ?_
  have hl5 : l ≤ 5 := by omega
  have hl := z53 (l := l) (by omega) (x := x)
  by_cases c0 : hi x = 0
  · refine Ev.pos c0 (Ev.pos (Int.natCast_nonneg _) (Ev.ret' ?_))
    have h32 := z2b hl5
    have hlo : lo x = (((lo x).toNat : Nat) : Int) := by have := z6u x; omega
    rw [z37 l (by omega), hlo, z5d _ (2 ^ l) (by omega)]
    rw [Bool.eq_iff_iff, beq_iff_eq, decide_eq_true_eq, hS, hl]
    have hq : (lo x).toNat / 2 ^ 2 ^ l = 0 ↔ (lo x).toNat < Q l := by
      rw [Nat.div_eq_zero_iff]; unfold Q
      have := Nat.two_pow_pos (2 ^ l)
      omega
    constructor
    · intro h; exact ⟨c0, hq.1 (by exact_mod_cast h)⟩
    · rintro ⟨_, h⟩; exact_mod_cast hq.2 h
  · refine Ev.neg c0 (Ev.ret' ?_)
    symm; rw [decide_eq_false_iff_not, hS, hl]; exact fun h => c0 h.1
theorem z6F (x y : E) : z1L.f (hi x) (lo x) (hi y) (lo y) = some (hi (x + y), lo (x + y)) := by
  unfold z1L.f; rw [xor_hi, xor_lo]
theorem z5C (x y : E) : z1B.f (hi x) (lo x) (hi y) (lo y) = some (hi (x + y), lo (x + y)) := by
  unfold z1B.f; rw [xor_hi, xor_lo]
theorem One_eq : z21.f = some (hi 1, lo 1) := by unfold z21.f; rw [hi_one, lo_one]
theorem Mul_out {L : Int} {x y : E} (h : ¬ (OfS L x ∧ OfS L y)) : Ev (fun k => z10.f k L (hi x) (lo x) (hi y) (lo y)) (0, 0) := by
  unfold z10.f
  refine Ev.bnd (z5v L x) ?_
  by_cases c : OfS L x
  · refine Ev.pos (decide_eq_true c) (Ev.bnd (z5v L y) ?_)
    rw [decide_eq_false (fun g => h ⟨c, g⟩)]
    exact Ev.step (fun k => by rw [z10.j0]) (Ev.pos (by rfl) (Ev.ret _))
  · exact Ev.neg (by simpa using c) (Ev.step (fun k => by rw [z10.j0]) (Ev.pos rfl (Ev.ret _)))
theorem Mul_ev {l : Nat} (hl : l ≤ 7) {x y : E} (hx : InL l x) (hy : InL l y) : Ev (fun k => z10.f k (l : Int) (hi x) (lo x) (hi y) (lo y)) (hi (x * y), lo (x * y)) := by
  unfold z10.f
  have hS : ∀ z, InL l z → OfS (l : Int) z := fun z hz => ⟨by omega, by omega, by rw [Int.toNat_natCast]; exact hz⟩
  refine Ev.bnd (z5v (l : Int) x) (Ev.pos (decide_eq_true (hS x hx)) (Ev.bnd (z5v (l : Int) y) ?_))
  rw [decide_eq_true (hS y hy)]
  refine Ev.step (fun k => by rw [z10.j0]) (Ev.neg (by decide) ?_)
  by_cases c : l ≤ 6
  · refine Ev.pos (by omega) ?_
    have ex := (z53 c).1 hx
    have ey := (z53 c).1 hy
    have e1 : lo x = (((lo x).toNat : Nat) : Int) := by have := z6u x; omega
    have e2 : lo y = (((lo y).toNat : Nat) : Int) := by have := z6u y; omega
    have ev := z6c l c (lo x).toNat (lo y).toNat ex.2 ey.2
    rw [← e1, ← e2] at ev
    refine Ev.bnd ev (Ev.ret' ?_)
    have hz := (z53 c).1 (z4a hl hx hy)
    have e3 : lo (x * y) = (((lo (x * y)).toNat : Nat) : Int) := by have := z6u (x * y); omega
    rw [hz.1, e3]
    congr 2
    have vx : val x = (lo x).toNat := by rw [z4r, ex.1]; simp
    have vy : val y = (lo y).toNat := by rw [z4r, ey.1]; simp
    have vz : val (x * y) = (lo (x * y)).toNat := by rw [z4r, hz.1]; simp
    rw [← vz, ← vx, ← vy, ← z3z hl hx hy, z1Z, z1Z]
  · have : l = 7 := by omega
    subst this
    refine Ev.neg (by decide) ?_
    have v1 := z1r x.1
    have v2 := z1r x.2
    have v3 := z1r y.1
    have v4 := z1r y.2
    have m1 := z6c 6 (by decide) _ _ v1 v3
    have m2 := z6c 6 (by decide) _ _ v2 v4
    have m3 := z6c 6 (by decide) _ _ (z2t v1 v2) (z2t v3 v4)
    rw [z1Z, z1Z] at m1 m2
    rw [← z1M, ← z1M, z1Z, z1Z] at m3
    have m4 := z7m 6 (by decide) _ (z1r (x.1 * y.1))
    rw [z1Z] at m4
    refine Ev.bnd m1 (Ev.bnd m2 ?_)
    have e1 : Go.bits .xor .u64 (hi x) (lo x) = ((val (x.1 + x.2) : Nat) : Int) := by unfold hi lo; rw [z24 _ _ v1 v2, z1M]
    have e2 : Go.bits .xor .u64 (hi y) (lo y) = ((val (y.1 + y.2) : Nat) : Int) := by unfold hi lo; rw [z24 _ _ v3 v4, z1M]
    simp only [e1, e2]
    refine Ev.bnd m3 (Ev.bnd m4 (Ev.ret' ?_))
    rw [z24 _ _ (z1r _) (z1r _), ← z1M, z24 _ _ (z1r _) (z1r _), ← z1M, z24 _ _ (z1r _) (z1r _), ← z1M, z24 _ _ (z1r _) (z1r _), ← z1M, karatsuba]
    rfl
/-- The program's element, the document's. -/
def toS (x : E) : S30 := ⟨hi x, lo x⟩
def toR (x : E) : S40 := ⟨hi x, lo x⟩
def WfS (e : S30) : Prop := (0 ≤ e.f0 ∧ e.f0 < 18446744073709551616) ∧ (0 ≤ e.f1 ∧ e.f1 < 18446744073709551616)
theorem z3K (x : E) : (toS x).f0 = hi x := rfl
theorem z3L (x : E) : (toS x).f1 = lo x := rfl
theorem z5G (x : E) : (toR x).f0 = hi x := rfl
theorem z5H (x : E) : (toR x).f1 = lo x := rfl
theorem z6m : toS 0 = z30 := by unfold toS; rw [z2E, z2G]; rfl
theorem toR_zero : toR 0 = z40 := by unfold toR; rw [z2E, z2G]; rfl
theorem toS_el (e : S30) (h : WfS e) : toS (el e.f0 e.f1) = e := by unfold toS; rw [hi_el h.1.1 h.1.2, lo_el h.2.1 h.2.2]
theorem toS_inj {x y : E} (h : toS x = toS y) : x = y := by
  unfold toS at h; injection h with h1 h2; exact z69 h1 h2
theorem wf_of {e : S30} (h : (Lit.int .u64 e.f0).wf = true ∧ (Lit.int .u64 e.f1).wf = true) : WfS e := ⟨wf_u64 h.1, wf_u64 h.2⟩
/-- A list that came in is a list of elements. -/
theorem z7k (l : List S30) (h : ∀ e ∈ l, ((Lit.int .u64 e.f0).wf = true) ∧ ((Lit.int .u64 e.f1).wf = true)) : ∃ X : List E, l = X.map toS := by
  refine ⟨l.map fun e => el e.f0 e.f1, ?_⟩
  rw [List.map_map]
  conv => lhs; rw [← List.map_id l]
  apply List.map_congr_left
  intro e he
  exact (toS_el e (wf_of (h e he))).symm
theorem elem_of (e : S30) (h : ((Lit.int .u64 e.f0).wf = true) ∧ ((Lit.int .u64 e.f1).wf = true)) : ∃ x : E, e = toS x := ⟨_, (toS_el e (wf_of h)).symm⟩
theorem rdS (X : List E) (i : Nat) : rd_T30 (X.map toS) (i : Int) = toS (X.getD i 0) := by
  unfold rd_T30; rw [Int.toNat_natCast, ← z6m, List.getD_eq_getElem?_getD, List.getD_eq_getElem?_getD, List.getElem?_map]
  cases X[i]? <;> rfl
theorem rdR (X : List E) (i : Nat) : zT (X.map toR) (i : Int) = toR (X.getD i 0) := by
  unfold zT; rw [Int.toNat_natCast, ← toR_zero, List.getD_eq_getElem?_getD, List.getD_eq_getElem?_getD, List.getElem?_map]
  cases X[i]? <;> rfl
end Go.Proofs.Ytkhmpaooinpfoaa.Sp
/- The document's product by shifts and masks is the tower's. Own text; nothing of the program in it. -/
namespace Go.Proofs.Ytkhmpaooinpfoaa.Tw
set_option linter.unusedVariables false
set_option linter.unusedSimpArgs false
theorem z3c {n a b : Nat} (hb : b < Q n) : (a * Q n + b) / Q n = a := by rw [Nat.mul_comm, Nat.mul_add_div (z2H n), Nat.div_eq_of_lt hb, Nat.add_zero]
theorem z3d {n a b : Nat} (hb : b < Q n) : (a * Q n + b) % Q n = b := by rw [Nat.mul_comm, Nat.mul_add_mod, Nat.mod_eq_of_lt hb]
theorem z65 {n a b c d : Nat} (hb : b < Q n) (hd : d < Q n) : (a * Q n + b) &&& (c * Q n + d) = (a &&& c) * Q n + (b &&& d) := by
  have h1 : ((a * Q n + b) &&& (c * Q n + d)) / Q n = a &&& c := by
    have e1 := z3c (n := n) (a := a) hb
    have e2 := z3c (n := n) (a := c) hd
    unfold Q at *
    rw [Nat.and_div_two_pow, e1, e2]
  have h2 : ((a * Q n + b) &&& (c * Q n + d)) % Q n = b &&& d := by
    have e1 := z3d (n := n) (a := a) hb
    have e2 := z3d (n := n) (a := c) hd
    unfold Q at *
    rw [Nat.and_mod_two_pow, e1, e2]
  have := Nat.div_add_mod ((a * Q n + b) &&& (c * Q n + d)) (Q n)
  rw [h1, h2, Nat.mul_comm] at this
  exact this.symm
theorem z7t {n a b c d : Nat} (hb : b < Q n) (hd : d < Q n) : (a * Q n + b) ||| (c * Q n + d) = (a ||| c) * Q n + (b ||| d) := by
  have h1 : ((a * Q n + b) ||| (c * Q n + d)) / Q n = a ||| c := by
    have e1 := z3c (n := n) (a := a) hb
    have e2 := z3c (n := n) (a := c) hd
    unfold Q at *
    rw [Nat.or_div_two_pow, e1, e2]
  have h2 : ((a * Q n + b) ||| (c * Q n + d)) % Q n = b ||| d := by
    have e1 := z3d (n := n) (a := a) hb
    have e2 := z3d (n := n) (a := c) hd
    unfold Q at *
    rw [Nat.or_mod_two_pow, e1, e2]
  have := Nat.div_add_mod ((a * Q n + b) ||| (c * Q n + d)) (Q n)
  rw [h1, h2, Nat.mul_comm] at this
  exact this.symm
theorem or_lt {n x y : Nat} (hx : x < Q n) (hy : y < Q n) : x ||| y < Q n := Nat.or_lt_two_pow hx hy
/-- The lower halves of all blocks of 2^(j+1) bits in a word of 2^n. -/
def M (j : Nat) : Nat → Nat
  | 0 => 0
  | n + 1 => if n = j then Q j - 1 else if n < j then 0 else M j n * Q n + M j n
theorem M_base (j : Nat) : M j (j + 1) = Q j - 1 := by simp [M]
theorem z6L {j n : Nat} (h : j + 1 ≤ n) : M j (n + 1) = M j n * Q n + M j n := by
  rw [M, if_neg (by omega), if_neg (by omega)]
/-- What is left of a word without its highest block of 2^j bits. -/
def H (j n : Nat) : Nat := 2 ^ (2 ^ n - 2 ^ j)
theorem z6o {j n : Nat} (h : j ≤ n) : H j n * Q j = Q n := by
  have := Nat.pow_le_pow_right (show 2 > 0 by decide) h
  unfold H Q; rw [← Nat.pow_add, Nat.sub_add_cancel this]
theorem H_pos (j n : Nat) : 0 < H j n := Nat.two_pow_pos _
theorem z6K {j n : Nat} (h : j ≤ n) : H j (n + 1) = H j n * Q n := by
  have := Nat.pow_le_pow_right (show 2 > 0 by decide) h
  unfold H Q; rw [← Nat.pow_add]; congr 1; rw [Nat.pow_succ]; omega
theorem H_self (j : Nat) : H j j = 1 := by unfold H; rw [Nat.sub_self, Nat.pow_zero]
theorem H_base (j : Nat) : H j (j + 1) = Q j := by rw [z6K (Nat.le_refl _), H_self, Nat.one_mul]
theorem H_le {j n : Nat} (h : j ≤ n) : H j n ≤ Q n := by rw [← z6o h]; exact Nat.le_mul_of_pos_right _ (z2H j)
theorem lt_H_mul {j n x : Nat} (h : j ≤ n) (hx : x < H j n) : x * Q j < Q n := by
  rw [← z6o h]; exact Nat.mul_lt_mul_of_pos_right hx (z2H j)
theorem M_lt {j : Nat} : ∀ d, M j (j + 1 + d) < H j (j + 1 + d)
  | 0 => by rw [Nat.add_zero, M_base, H_base]; have := z2H j; omega
  | d + 1 => by
    have ih := M_lt (j := j) d
    rw [← Nat.add_assoc, z6L (by omega), z6K (by omega)]
    have h2 : M j (j + 1 + d) < Q (j + 1 + d) := Nat.lt_of_lt_of_le ih (H_le (by omega))
    have h3 : M j (j + 1 + d) * Q (j + 1 + d) + Q (j + 1 + d) ≤ H j (j + 1 + d) * Q (j + 1 + d) := by
      have := Nat.mul_le_mul_right (Q (j + 1 + d)) ih
      rw [Nat.succ_mul] at this; exact this
    omega
theorem M_lt' {j n : Nat} (h : j + 1 ≤ n) : M j n < H j n := by
  obtain ⟨d, rfl⟩ := Nat.le.dest h; exact M_lt d
theorem M_lt_Q {j n : Nat} (h : j + 1 ≤ n) : M j n < Q n := Nat.lt_of_lt_of_le (M_lt' h) (H_le (by omega))
theorem z2J {x m b : Nat} (h : m < b) : x &&& m < b := Nat.lt_of_le_of_lt Nat.and_le_right h
/-- A word times the generator of the level j, block by block. -/
def tw (n : Nat) : Nat → Nat → Nat
  | 0, v => v
  | j + 1, v => (((v &&& M j n) ^^^ tw n j ((v / Q j) &&& M j n)) * Q j) % Q n ||| ((v / Q j) &&& M j n)
theorem z5s (j : Nat) : val (gen j) < Q j := z1r _
theorem z6k {j g : Nat} (hg : g < Q j) : ∀ d u, u < H j (j + d) → val (of (j + d) g * of (j + d) u) < H j (j + d)
  | 0, u, hu => by
    rw [Nat.add_zero, H_self] at hu ⊢
    have : u = 0 := by omega
    rw [this, z35, z2B, z1E]; decide
  | d + 1, u, hu => by
    rw [← Nat.add_assoc] at hu ⊢
    rw [z6K (Nat.le_add_right _ _)] at hu ⊢
    have hg' : g < Q (j + d) := Nat.lt_of_lt_of_le hg (z3n (Nat.le_add_right _ _))
    have e1 : of (j + d + 1) g = up (of (j + d) g) := z5w hg'
    rw [e1, z3F, z1N, z2A, z2L, z2g, z2A, z2L]
    have h1 := z6k hg d (u / Q (j + d)) (Nat.div_lt_of_lt_mul (by rw [Nat.mul_comm]; exact hu))
    have h2 := z1r (of (j + d) g * of (j + d) (u % Q (j + d)))
    have h3 : val (of (j + d) g * of (j + d) (u / Q (j + d))) * Q (j + d) + Q (j + d) ≤ H j (j + d) * Q (j + d) := by
      have := Nat.mul_le_mul_right (Q (j + d)) h1
      rw [Nat.succ_mul] at this; exact this
    omega
theorem tw_split {j : Nat} (C : ∀ n, j ≤ n → ∀ v, v < Q n → tw n j v = val (of n (val (gen j)) * of n v)) (D : ∀ n, j ≤ n → ∀ h l, h < Q n → l < Q n → tw (n + 1) j (h * Q n + l) = tw n j h * Q n + tw n j l) :
    ∀ n, j + 1 ≤ n → ∀ h l, h < Q n → l < Q n → tw (n + 1) (j + 1) (h * Q n + l) = tw n (j + 1) h * Q n + tw n (j + 1) l ∧ tw n (j + 1) l < Q n := by
  intro n hn h l hh hl
  have hM := M_lt' hn
  have hMQ := M_lt_Q hn
  have hjn : j ≤ n := by omega
  have hQj := z2H j
  -- the higher parts
  have hdiv : (h * Q n + l) / Q j = (h / Q j) * Q n + ((h % Q j) * H j n + l / Q j) := by
    have e1 : h * Q n = (h * H j n) * Q j := by rw [← z6o hjn, Nat.mul_assoc]
    rw [e1, Nat.mul_comm (h * H j n), Nat.mul_add_div hQj]
    have e2 := Nat.div_add_mod h (Q j)
    have e3 : h * H j n = (h / Q j) * Q n + (h % Q j) * H j n := by
      conv => lhs; rw [← e2]
      rw [Nat.add_mul, ← z6o hjn]
      congr 1
      rw [Nat.mul_comm (Q j), Nat.mul_assoc, Nat.mul_comm (Q j)]
    rw [e3, Nat.add_assoc]
  have hlq : l / Q j < H j n := Nat.div_lt_of_lt_mul (by rw [Nat.mul_comm, z6o hjn]; exact hl)
  have hl' : (h % Q j) * H j n + l / Q j < Q n := by
    have h1 : (h % Q j) * H j n + H j n ≤ Q j * H j n := by
      have := Nat.mul_le_mul_right (H j n) (Nat.mod_lt h hQj)
      rw [Nat.succ_mul] at this; exact this
    rw [Nat.mul_comm (Q j), z6o hjn] at h1
    omega
  have hand : ((h % Q j) * H j n + l / Q j) &&& M j n = (l / Q j) &&& M j n := by
    have e1 : ∀ x, x &&& M j n = (x % H j n) &&& M j n := fun x => by
      have h3 : x &&& M j n < H j n := z2J hM
      have h4 : (x &&& M j n) % H j n = x &&& M j n := Nat.mod_eq_of_lt h3
      rw [← h4]; unfold H; rw [Nat.and_mod_two_pow]
      rw [show M j n % 2 ^ (2 ^ n - 2 ^ j) = M j n from Nat.mod_eq_of_lt hM]
    rw [e1, Nat.mul_comm, Nat.mul_add_mod, ← e1]
  have hhi : ((h * Q n + l) / Q j) &&& M j (n + 1) = ((h / Q j) &&& M j n) * Q n + ((l / Q j) &&& M j n) := by
    rw [z6L hn, hdiv, z65 hl' hMQ, hand]
  have hlo : (h * Q n + l) &&& M j (n + 1) = (h &&& M j n) * Q n + (l &&& M j n) := by rw [z6L hn, z65 hl hMQ]
  have b1 : (h / Q j) &&& M j n < Q n := z2J hMQ
  have b2 : (l / Q j) &&& M j n < Q n := z2J hMQ
  have b3 : l &&& M j n < H j n := z2J hM
  have b4 : (l / Q j) &&& M j n < H j n := z2J hM
  have b5 : tw n j ((l / Q j) &&& M j n) < H j n := by
    rw [C n hjn _ b2]
    obtain ⟨d, rfl⟩ := Nat.le.dest hjn
    exact z6k (z5s j) d _ b4
  have b6 : (l &&& M j n) ^^^ tw n j ((l / Q j) &&& M j n) < H j n := Nat.xor_lt_two_pow b3 b5
  have b7 := lt_H_mul hjn b6
  have b8 : tw n j ((l / Q j) &&& M j n) < Q n := Nat.lt_of_lt_of_le b5 (H_le hjn)
  have b9 : l &&& M j n < Q n := z2J hMQ
  constructor
  · simp only [tw]
    rw [hhi, hlo, D n hjn _ _ b1 b2, z6n b9 b8, Nat.add_mul]
    have e5 : ∀ X Y : Nat, Y < Q n → (X * Q n * Q j + Y) % Q (n + 1) = ((X * Q j) % Q n) * Q n + Y := by
      intro X Y hY
      rw [show X * Q n * Q j = X * Q j * Q n by rw [Nat.mul_assoc, Nat.mul_comm (Q n), ← Nat.mul_assoc], z2Y]
      rw [Nat.mul_comm (X * Q j), Nat.mod_mul, Nat.mul_add_mod, Nat.mod_eq_of_lt hY, Nat.mul_add_div (z2H n), Nat.div_eq_of_lt hY, Nat.add_zero, Nat.mul_comm (Q n), Nat.add_comm]
    rw [e5 _ _ b7, z7t b7 b2, Nat.mod_eq_of_lt b7]
  · simp only [tw]
    exact or_lt (Nat.mod_lt _ (z2H n)) b2
theorem z7H : ∀ j, (∀ n, j ≤ n → ∀ v, v < Q n → tw n j v = val (of n (val (gen j)) * of n v)) ∧ (∀ n, j ≤ n → ∀ h l, h < Q n → l < Q n → tw (n + 1) j (h * Q n + l) = tw n j h * Q n + tw n j l)
  | 0 => ⟨fun n _ v hv => by rw [z68, z2T, of_one, one_mul, z2c _ _ hv]; rfl, fun n _ h l _ _ => rfl⟩
  | j + 1 => by
    obtain ⟨C, D⟩ := z7H j
    have D' := tw_split C D
    refine ⟨?_, fun n hn h l hh hl => (D' n hn h l hh hl).1⟩
    intro n hn
    obtain ⟨d, rfl⟩ := Nat.le.dest hn
    clear hn
    induction d with
    | zero =>
      intro v hv
      rw [Nat.add_zero] at hv ⊢
      have hQj := z2H j
      have hd : v / Q j < Q j := Nat.div_lt_of_lt_mul (by rw [← z2Y]; exact hv)
      have hm : v % Q j < Q j := Nat.mod_lt _ hQj
      have hmask : ∀ x, x &&& M j (j + 1) = x % Q j := fun x => by rw [M_base]; unfold Q; rw [Nat.and_two_pow_sub_one_eq_mod]
      have e1 : tw (j + 1) j (v / Q j) = val (gen j * of j (v / Q j)) := by
        rw [C (j + 1) (by omega) _ (Nat.lt_of_lt_of_le hd (z6M j)), z4s (d := 1) (z5s j) hd, z1Z]
      simp only [tw]
      rw [hmask, hmask, Nat.mod_eq_of_lt hd, e1]
      have hv2 := z1r (gen j * of j (v / Q j))
      have hX := z2t hm hv2
      rw [Nat.mod_eq_of_lt (show _ * Q j < Q (j + 1) by rw [z2Y]; exact Nat.mul_lt_mul_of_pos_right hX hQj)]
      have hor : ∀ X, X * Q j ||| (v / Q j) = X * Q j + v / Q j := fun X => by
        have := z7t (n := j) (a := X) (b := 0) (c := 0) (d := v / Q j) hQj hd
        simpa using this
      rw [hor, z1Z, z1N]
      congr 1
      · congr 1
        rw [z2e, z33, z34, one_mul, zero_mul, one_mul, add_zero, z2g, z2A, z2L, z1M, z2c _ _ hm]
      · rw [z2f, z33, z34, one_mul, zero_mul, zero_add, z2g, z2A, z2c _ _ hd]
    | succ d ih =>
      intro v hv
      rw [← Nat.add_assoc] at hv ⊢
      have hvd := Nat.div_add_mod v (Q (j + 1 + d))
      rw [Nat.mul_comm] at hvd
      have h1 : v / Q (j + 1 + d) < Q (j + 1 + d) := Nat.div_lt_of_lt_mul (by rw [← z2Y]; exact hv)
      have h2 : v % Q (j + 1 + d) < Q (j + 1 + d) := Nat.mod_lt _ (z2H _)
      have hg : val (gen (j + 1)) < Q (j + 1 + d) := Nat.lt_of_lt_of_le (z5s (j + 1)) (z3n (Nat.le_add_right _ _))
      have e1 : of (j + 1 + d + 1) (val (gen (j + 1))) = up (of (j + 1 + d) (val (gen (j + 1)))) := z5w hg
      rw [e1, z3F, z1N, z2A, z2L, z2g, z2A, z2L, ← ih _ h1, ← ih _ h2]
      conv => lhs; rw [← hvd]
      exact (D' (j + 1 + d) (by omega) _ _ h1 h2).1
theorem tw_eq {j n v : Nat} (h : j ≤ n) (hv : v < Q n) : tw n j v = val (of n (val (gen j)) * of n v) := (z7H j).1 n h v hv
/-- A bit of a level is a product of generators. -/
def gp (n : Nat) : Nat → Nat → T n
  | 0, _ => 1
  | m + 1, i => (if i.testBit m then of n (val (gen (m + 1))) else 1) * gp n m i
theorem gp_up {n : Nat} : ∀ m i, m ≤ n → gp (n + 1) m i = up (gp n m i)
  | 0, i, _ => rfl
  | m + 1, i, h => by
    show (if i.testBit m then of (n + 1) (val (gen (m + 1))) else 1) * gp (n + 1) m i = up ((if i.testBit m then of n (val (gen (m + 1))) else 1) * gp n m i)
    rw [up_mul, gp_up m i (by omega)]
    congr 1
    split
    · exact z5w (Nat.lt_of_lt_of_le (z5s (m + 1)) (z3n h))
    · rfl
theorem gp_mod {n : Nat} : ∀ m i k, m ≤ k → gp n m (i % 2 ^ k) = gp n m i
  | 0, i, k, _ => rfl
  | m + 1, i, k, h => by
    show (if (i % 2 ^ k).testBit m then _ else _) * gp n m (i % 2 ^ k) = (if i.testBit m then _ else _) * gp n m i
    rw [gp_mod m i k (by omega), Nat.testBit_mod_two_pow, decide_eq_true (by omega), Bool.true_and]
theorem gp_bit : ∀ n i, i < 2 ^ n → gp n n i = of n (2 ^ i)
  | 0, i, h => by
    have : i = 0 := by simpa using h
    rw [this]; rfl
  | n + 1, i, h => by
    show (if i.testBit n then of (n + 1) (val (gen (n + 1))) else 1) * gp (n + 1) n i = of (n + 1) (2 ^ i)
    rw [gp_up n i (Nat.le_refl _), ← gp_mod n i n (Nat.le_refl _), gp_bit n _ (Nat.mod_lt _ (Nat.two_pow_pos n))]
    rw [Nat.pow_succ] at h
    by_cases c : i < 2 ^ n
    · rw [Nat.testBit_lt_two_pow c, Nat.mod_eq_of_lt c]
      rw [z5w (show 2 ^ i < Q n from Nat.pow_lt_pow_right (by decide) c)]
      simp only [Bool.false_eq_true, if_false, one_mul]; rfl
    · have hi : i % 2 ^ n = i - 2 ^ n := by rw [Nat.mod_eq_sub_mod (by omega), Nat.mod_eq_of_lt (by omega)]
      have hb : i.testBit n = true := by
        have := Nat.testBit_two_pow_add_eq (i - 2 ^ n) n
        rw [show 2 ^ n + (i - 2 ^ n) = i by omega, Nat.testBit_lt_two_pow (show i - 2 ^ n < 2 ^ n by omega)] at this
        simpa using this
      rw [hb, if_pos rfl, hi, z1Z]
      have e : 2 ^ i = 2 ^ (i - 2 ^ n) * Q n + 0 := by
        unfold Q; rw [← Nat.pow_add, Nat.add_zero]; congr 1; omega
      rw [e, z2g, z3c (z2H n), z3d (z2H n), z35]
      apply ext
      · rw [z2e, z33, z34, z3j, z4O, one_mul, zero_mul, z2B, z2B, add_zero, add_zero]; rfl
      · rw [z2f, z33, z34, z3j, zero_mul, z2B, add_zero]; rfl
/-- An element is the sum of its bits. -/
theorem bits_sum {n : Nat} (b k : Nat) (hb : b < Q n) (hk : k < 2 ^ n) : of n (b % 2 ^ (k + 1)) = of n (b % 2 ^ k) + (if b.testBit k then of n (2 ^ k) else 0) := by
  have h2 : 2 ^ k < Q n := Nat.pow_lt_pow_right (by decide) hk
  have h1 : b % 2 ^ k < Q n := Nat.lt_trans (Nat.mod_lt _ (Nat.two_pow_pos k)) h2
  have e : b % 2 ^ (k + 1) = b % 2 ^ k ^^^ (if b.testBit k then 2 ^ k else 0) := by
    apply Nat.eq_of_testBit_eq
    intro i
    rw [Nat.testBit_xor, Nat.testBit_mod_two_pow, Nat.testBit_mod_two_pow]
    by_cases hi : i = k
    · subst hi
      cases hbi : b.testBit i <;> simp
    · by_cases hlt : i < k
      · have : decide (i < k + 1) = true := decide_eq_true (by omega)
        rw [this, decide_eq_true hlt]
        split
        · rw [Nat.testBit_two_pow_of_ne (by omega)]; simp
        · simp
      · rw [decide_eq_false (by omega), decide_eq_false hlt]
        split
        · rw [Nat.testBit_two_pow_of_ne (by omega)]; simp
        · simp
  rw [e]
  split
  · rw [z7o h1 h2]
  · rw [Nat.xor_zero, add_zero]
end Go.Proofs.Ytkhmpaooinpfoaa.Tw
/- The document's product of elements is the tower's. Own text. -/
namespace Go.Proofs.Ytkhmpaooinpfoaa.Sp
open Go.RowKit Go.Proofs.YtkhmpaooinpfoaaW.PrintWords Go.Proofs.YtkhmpaooinpfoaaW.PrintMore Go.Proofs.Ytkhmpaooinpfoaa.P Go.Proofs.Ytkhmpaooinpfoaa.Ar Go.Proofs.Ytkhmpaooinpfoaa.Tw
set_option linter.unusedVariables false
set_option linter.unusedSimpArgs false
theorem z7l : ∀ j : Nat, j < 6 → z19.f (j : Int) = some ((M j 6 : Nat) : Int) := by decide +kernel
theorem tw_lt {j v : Nat} (hj : j ≤ 6) (hv : v < Q 6) : tw 6 j v < Q 6 := by rw [tw_eq hj hv]; exact z1r _
theorem shlw (a w : Nat) (hw : w ≤ 64) : shl .u64 (a : Int) (w : Int) = (((a * 2 ^ w) % 2 ^ 64 : Nat) : Int) := by
  unfold shl
  have h64 : IntKind.u64.bits = 64 := rfl
  rw [h64, Int.toNat_natCast, Nat.min_eq_left hw]
  have hc : ((a : Int) * 2 ^ w) = ((a * 2 ^ w : Nat) : Int) := by simp
  rw [hc]
  simp [IntKind.wrap, IntKind.bits, IntKind.signed]
theorem z38 : ∀ (j : Nat), j ≤ 6 → ∀ (v : Nat), v < Q 6 → Ev (fun k => zp.f k ((j : Int) - 1) (v : Int)) ((tw 6 j v : Nat) : Int) := by
  intro j
  induction j with
  | zero =>
    intro _ v hv
    have h0 : (((0 : Nat) : Int) - 1) < 0 := by decide
    refine Ev.step (fun k => by rw [zp.f]) (Ev.pos h0 ?_)
    exact Ev.ret' rfl
  | succ j ih =>
    intro hj v hv
    have h32 := z2b (n := j) (by omega)
    have hw : IntKind.u64.wrap (((j + 1 : Nat) : Int) - 1) = (j : Int) := by rw [z2V (by omega) (by omega)]; omega
    have hw2 : wrap64 (((j + 1 : Nat) : Int) - 1 - 1) = (j : Int) - 1 := by rw [z27 (by omega) (by omega)]; omega
    have hj1 : (((j + 1 : Nat) : Int) - 1) = (j : Int) := by omega
    have hQ6 : Q 6 = 2 ^ 64 := rfl
    have hM : M j 6 < 2 ^ 64 := by rw [← hQ6]; exact M_lt_Q (by omega)
    have hd : v / 2 ^ 2 ^ j < 2 ^ 64 := Nat.lt_of_le_of_lt (Nat.div_le_self _ _) hv
    have hhi : (v / 2 ^ 2 ^ j) &&& M j 6 < 2 ^ 64 := Nat.and_lt_two_pow _ hM
    have hlo : v &&& M j 6 < 2 ^ 64 := Nat.and_lt_two_pow _ hM
    have hrec := ih (by omega) _ hhi
    have htw : tw 6 j ((v / 2 ^ 2 ^ j) &&& M j 6) < 2 ^ 64 := tw_lt (by omega) hhi
    rw [hj1] at hw hw2 ⊢
    refine Ev.step (fun k => by rw [zp.f]) (Ev.neg (by omega) ?_)
    simp only [hw]
    refine Ev.pos (Int.natCast_nonneg _) (Ev.bnd0 (z7l j (by omega)) (Ev.bnd0 (z7l j (by omega)) ?_))
    simp only [z37 j (by omega), z5d v (2 ^ j) (by omega), z2D _ _ hd hM, z2D _ _ hv hM, hw2]
    refine Ev.bnd hrec (Ev.ret' ?_)
    rw [z24 _ _ hlo htw, shlw _ _ (by omega), z6e _ _ (Nat.mod_lt _ (by decide)) hhi]
    rfl
/-- The generator of a level, as an element of the greatest one. -/
def gE (m : Nat) : E := of 7 (val (gen m))
theorem tw_hi {j : Nat} (hj : j ≤ 6) (x : T 6) : tw 6 j (val x) = val (of 6 (val (gen j)) * x) := by rw [tw_eq hj (z1r x), z1Z]
theorem Times_ev (j : Nat) (hj : j ≤ 6) (x : E) : Ev (fun k => zx.f k (j : Int) (hi x) (lo x)) (hi (gE (j + 1) * x), lo (gE (j + 1) * x)) := by
  unfold zx.f
  by_cases c : j < 6
  · refine Ev.pos (by omega) ?_
    have h1 := z38 (j + 1) (by omega) (val x.1) (z1r x.1)
    have h2 := z38 (j + 1) (by omega) (val x.2) (z1r x.2)
    rw [show (((j + 1 : Nat) : Int) - 1) = (j : Int) by omega] at h1 h2
    refine Ev.bnd h1 (Ev.bnd h2 (Ev.ret' ?_))
    have e : gE (j + 1) = up (of 6 (val (gen (j + 1)))) := z5w (Nat.lt_of_lt_of_le (z5s (j + 1)) (z3n (by omega)))
    rw [e, z3F, tw_hi (by omega), tw_hi (by omega)]; rfl
  · have : j = 6 := by omega
    subst this
    refine Ev.neg (by decide) ?_
    have h1 := z38 6 (by omega) (val x.1) (z1r x.1)
    refine Ev.bnd h1 (Ev.ret' ?_)
    have e : gE 7 = gen 7 := z1Z _
    have ev : of 6 (val (gen 6)) = gen 6 := z1Z _
    rw [tw_hi (by omega), e, ev]
    unfold hi lo
    rw [z24 _ _ (z1r _) (z1r _), ← z1M]
    have m1 : (gen 7 * x).1 = x.2 + gen 6 * x.1 := by rw [z2e, z33, z34, one_mul, zero_mul, one_mul, add_zero]
    have m2 : (gen 7 * x).2 = x.1 := by rw [z2f, z33, z34, one_mul, zero_mul, zero_add]
    rw [m1, m2]
/-- The element with one bit. -/
def bitE (n : Nat) : E := of 7 (2 ^ n)
theorem z5S {n : Nat} (hn : n < 128) : hi (bitE n) = (if n < 64 then 0 else ((2 ^ (n - 64) : Nat) : Int)) ∧ lo (bitE n) = (if n < 64 then ((2 ^ n : Nat) : Int) else 0) := by
  unfold bitE hi lo
  rw [z2g, z2A, z2L]
  have hQ : Q 6 = 2 ^ 64 := rfl
  by_cases c : n < 64
  · have h1 : 2 ^ n < Q 6 := by rw [hQ]; exact Nat.pow_lt_pow_right (by decide) c
    rw [if_pos c, if_pos c, Nat.div_eq_of_lt h1, Nat.mod_eq_of_lt h1, z2c _ _ h1, z35, z1E]; exact ⟨rfl, rfl⟩
  · have e : 2 ^ n = 2 ^ (n - 64) * Q 6 + 0 := by rw [hQ, ← Nat.pow_add, Nat.add_zero]; congr 1; omega
    have h2 : 2 ^ (n - 64) < Q 6 := by rw [hQ]; exact Nat.pow_lt_pow_right (by decide) (by omega)
    rw [if_neg c, if_neg c, e, z3c (z2H 6), z3d (z2H 6), z2c _ _ h2, z35, z1E]; exact ⟨rfl, rfl⟩
theorem z3v (n : Nat) (hn : n < 128) : Ev (fun k => zt.f k (n : Int)) (hi (bitE n), lo (bitE n)) := by
  obtain ⟨h1, h2⟩ := z5S hn
  unfold zt.f
  refine Ev.neg (by omega) ?_
  rw [decide_eq_false (show ¬ ((n : Int) > 127) by omega), h1, h2]
  refine Ev.step (fun k => by rw [zt.j0]) (Ev.neg (by decide) ?_)
  by_cases c : n < 64
  · rw [if_pos c, if_pos c]
    refine Ev.neg (by omega) ?_
    rw [z2V (by omega) (by omega)]
    exact Ev.pos (Int.natCast_nonneg _) (Ev.ret' (by rw [z37 n (by omega)]))
  · rw [if_neg c, if_neg c]
    refine Ev.pos (by omega) ?_
    have e : IntKind.u64.wrap (wrap64 ((n : Int) - 64)) = ((n - 64 : Nat) : Int) := by
      rw [z27 (by omega) (by omega), z2V (by omega) (by omega)]; omega
    rw [e]
    exact Ev.pos (Int.natCast_nonneg _) (Ev.ret' (by rw [z37 (n - 64) (by omega)]))
theorem z4G (x n : Nat) : (x &&& 2 ^ n ≠ 0) ↔ x.testBit n = true := by
  constructor
  · intro h
    cases hb : x.testBit n with
    | true => rfl
    | false =>
      exfalso; apply h
      apply Nat.eq_of_testBit_eq
      intro i
      rw [Nat.testBit_and, Nat.zero_testBit]
      by_cases e : i = n
      · subst e; rw [hb, Bool.false_and]
      · rw [Nat.testBit_two_pow_of_ne (by omega), Bool.and_false]
  · intro h e
    have := congrArg (fun z => z.testBit n) e
    simp only [Nat.testBit_and, Nat.testBit_two_pow_self, Bool.and_true, Nat.zero_testBit] at this
    rw [h] at this; cases this
theorem hasBits (x : E) (n : Nat) (hn : n < 128) : ((Go.bits .or .u64 (Go.bits .and .u64 (lo x) (lo (bitE n))) (Go.bits .and .u64 (hi x) (hi (bitE n)))) != 0) = (val x).testBit n := by
  obtain ⟨h1, h2⟩ := z5S hn
  have hx1 := z1r x.1
  have hx2 := z1r x.2
  have hQ : Q 6 = 2 ^ 64 := rfl
  rw [hQ] at hx1 hx2
  have hv : val x = 2 ^ 64 * val x.1 + val x.2 := by rw [z1N, hQ, Nat.mul_comm]
  rw [h1, h2, hv]
  unfold hi lo
  by_cases c : n < 64
  · rw [if_pos c, if_pos c]
    have hp : 2 ^ n < 2 ^ 64 := Nat.pow_lt_pow_right (by decide) c
    have z : (0 : Int) = ((0 : Nat) : Int) := rfl
    rw [z, z2D _ _ hx2 hp, z2D _ _ hx1 (by decide), z6e _ _ (Nat.and_lt_two_pow _ hp) (Nat.and_lt_two_pow _ (by decide)), Nat.and_zero, Nat.or_zero]
    rw [Nat.testBit_two_pow_mul_add _ hx2, if_pos c, Bool.eq_iff_iff, ← z4G, bne_iff_ne]
    exact ⟨fun h e => h (by rw [e]), fun h e => h (by exact_mod_cast e)⟩
  · rw [if_neg c, if_neg c]
    have hp : 2 ^ (n - 64) < 2 ^ 64 := Nat.pow_lt_pow_right (by decide) (by omega)
    have z : (0 : Int) = ((0 : Nat) : Int) := rfl
    rw [z, z2D _ _ hx1 hp, z2D _ _ hx2 (by decide), z6e _ _ (Nat.and_lt_two_pow _ (by decide)) (Nat.and_lt_two_pow _ hp), Nat.and_zero, Nat.zero_or]
    rw [Nat.testBit_two_pow_mul_add _ hx2, if_neg c, Bool.eq_iff_iff, ← z4G, bne_iff_ne]
    exact ⟨fun h e => h (by rw [e]), fun h e => h (by exact_mod_cast e)⟩
theorem Has_ev (x : E) (n : Nat) (hn : n < 128) : Ev (fun k => zR.f k (hi x) (lo x) (n : Int)) ((val x).testBit n) := by
  unfold zR.f
  exact Ev.bnd (z3v n hn) (Ev.ret' (hasBits x n hn))
theorem and_one (n j : Nat) (hn : n < 2 ^ 63) (hj : j ≤ 64) : Go.bits .and .i64 (shr .i64 (n : Int) (j : Int)) 1 = (((n / 2 ^ j) % 2 : Nat) : Int) := by
  rw [shr_i64 n j hj]
  have := z5o (n / 2 ^ j) 1 (Nat.lt_of_le_of_lt (Nat.div_le_self _ _) hn) (by decide)
  simpa using this
theorem prod_l1 (a b acc : E) (n : Nat) (hn : n < 128) {R : Int × Int} (hk : Ev (fun k => ze.l0 k ((n + 1 : Nat) : Int) (hi a) (lo a) (hi b) (lo b) (hi (acc + gp 7 7 n * a)) (lo (acc + gp 7 7 n * a))) R) :
    ∀ (d j : Nat), j + d = 7 → Ev (fun k => ze.l1 k (n : Int) (j : Int) (hi a) (lo a) (hi b) (lo b) (hi acc) (lo acc) (hi (gp 7 j n * a)) (lo (gp 7 j n * a))) R := by
  intro d
  induction d with
  | zero =>
    intro j hj
    have : j = 7 := by omega
    subst this
    refine Ev.step (fun k => by rw [ze.l1]) (Ev.neg (by decide) (Ev.bnd0 (z5C acc _) ?_))
    simp only [z1C hn (by decide)]
    exact hk
  | succ d ih =>
    intro j hj
    have hu : IntKind.u64.wrap (j : Int) = (j : Int) := z2V (by omega) (by omega)
    have hih := ih (j + 1) (by omega)
    refine Ev.step (fun k => by rw [ze.l1]) (Ev.pos (by omega) ?_)
    simp only [hu, and_one n j (Nat.lt_trans hn (by decide)) (by omega), z1C (show j < 7 by omega) (by decide)]
    refine Ev.pos (Int.natCast_nonneg _) ?_
    have hgp : gp 7 (j + 1) n = (if n.testBit j then of 7 (val (gen (j + 1))) else 1) * gp 7 j n := rfl
    have htb : n.testBit j = decide ((n / 2 ^ j) % 2 = 1) := by rw [Nat.testBit_eq_decide_div_mod_eq]
    by_cases c : (n / 2 ^ j) % 2 = 1
    · refine Ev.pos (by omega) (Ev.bnd (Times_ev j (by omega) _) ?_)
      rw [hgp, htb, decide_eq_true c, if_pos rfl, mul_assoc] at hih
      exact hih
    · refine Ev.neg (by omega) ?_
      rw [hgp, htb, decide_eq_false c, if_neg (by decide), one_mul] at hih
      exact hih
theorem prod_l0 (a b : E) : ∀ (d n : Nat), n + d = 128 → Ev (fun k => ze.l0 k (n : Int) (hi a) (lo a) (hi b) (lo b) (hi (of 7 (val b % 2 ^ n) * a)) (lo (of 7 (val b % 2 ^ n) * a))) (hi (b * a), lo (b * a)) := by
  intro d
  induction d with
  | zero =>
    intro n hn
    have : n = 128 := by omega
    subst this
    have hb : val b % 2 ^ 128 = val b := Nat.mod_eq_of_lt (by have := z1r b; rw [z5O] at this; exact this)
    rw [hb, z1Z]
    exact Ev.step (fun k => by rw [ze.l0]) (Ev.neg (by decide) (Ev.ret _))
  | succ d ih =>
    intro n hn
    have hn' : n < 128 := by omega
    have hih := ih (n + 1) (by omega)
    rw [bits_sum (val b) n (z1r b) (by simpa using hn')] at hih
    refine Ev.step (fun k => by rw [ze.l0]) (Ev.pos (by omega) (Ev.bnd (Has_ev b n hn') ?_))
    cases c : (val b).testBit n with
    | true =>
      refine Ev.pos rfl ?_
      rw [c, if_pos rfl, add_mul, ← gp_bit 7 n (by simpa using hn')] at hih
      have := prod_l1 a b _ n hn' hih 7 0 (by omega)
      have e0 : gp 7 0 n * a = a := one_mul a
      rw [e0] at this
      exact this
    | false =>
      refine Ev.neg (by decide) ?_
      rw [c, if_neg (by decide), add_zero] at hih
      simp only [z1C hn' (by decide)]
      exact hih
theorem z4E (x y : E) : Ev (fun k => ze.f k (hi x) (lo x) (hi y) (lo y)) (hi (x * y), lo (x * y)) := by
  unfold ze.f
  have := prod_l0 x y 128 0 (by decide)
  rw [Nat.pow_zero, Nat.mod_one, z35, zero_mul, z2E, z2G, mul_comm y x] at this
  exact this
end Go.Proofs.Ytkhmpaooinpfoaa.Sp
/- Lists of elements: which are of a level, the same ones, the document's. Own text. -/
namespace Go.Proofs.Ytkhmpaooinpfoaa.Sp
open Go.RowKit Go.Proofs.YtkhmpaooinpfoaaW.PrintWords Go.Proofs.YtkhmpaooinpfoaaW.PrintMore Go.Proofs.Ytkhmpaooinpfoaa.P Go.Proofs.Ytkhmpaooinpfoaa.Ar Go.Proofs.Ytkhmpaooinpfoaa.Tw
set_option linter.unusedVariables false
set_option linter.unusedSimpArgs false
/-- Is there such a level? -/
def LvS (L : Int) : Prop := 0 ≤ L ∧ L ≤ 7
instance (L : Int) : Decidable (LvS L) := by unfold LvS; infer_instance
theorem wide_out {L : Int} (h : ¬ LvS L) : Ev (fun k => z11.f k L) 0 := by
  unfold z11.f
  by_cases h0 : L < 0
  · exact Ev.pos h0 (Ev.step (fun k => by rw [z11.j0]) (Ev.pos rfl (Ev.ret _)))
  · rw [decide_eq_true (show L > 7 by unfold LvS at h; omega)]
    exact Ev.neg h0 (Ev.step (fun k => by rw [z11.j0]) (Ev.pos rfl (Ev.ret _)))
theorem wide_in {L : Int} (h : LvS L) : ∃ v, v ≠ 0 ∧ Ev (fun k => z11.f k L) v := by
  obtain ⟨h0, h7⟩ := h
  obtain ⟨l, rfl⟩ := Int.eq_ofNat_of_zero_le h0
  have hstep : ∀ v, Ev (fun k => z11.j0 k (l : Int) false) v → Ev (fun k => z11.f k (l : Int)) v := by
    intro v hv
    unfold z11.f
    rw [decide_eq_false (show ¬ ((l : Int) > 7) by omega)]
    exact Ev.neg (by omega) hv
  by_cases c : (l : Int) ≤ 3
  · exact ⟨1, by decide, hstep 1 (Ev.step (fun k => by rw [z11.j0]) (Ev.neg (by decide) (Ev.pos c (Ev.ret _))))⟩
  · have e : wrap64 ((l : Int) - 3) = ((l - 3 : Nat) : Int) := by rw [z27 (by omega) (by omega)]; omega
    refine ⟨((2 ^ (l - 3) : Nat) : Int), by have := Nat.two_pow_pos (l - 3); omega, hstep _ (Ev.step (fun k => by rw [z11.j0]) (Ev.neg (by decide) (Ev.neg c ?_)))⟩
    rw [e]
    exact Ev.pos (Int.natCast_nonneg _) (Ev.ret' (z5c (l - 3) (by omega)))
theorem rdL (l : Nat) (h : l ≤ 7) : rd ([1, 2, 4, 8, 16, 32, 64, 128] : List Int) (l : Int) = ((2 ^ l : Nat) : Int) := by
  have : ∀ m, m ≤ 7 → rd ([1, 2, 4, 8, 16, 32, 64, 128] : List Int) ((m : Nat) : Int) = ((2 ^ m : Nat) : Int) := by decide
  exact this l h
theorem z47 (a n : Nat) (ha : a < 2 ^ 64) (hn : n ≤ 64) : Go.bits .and .u64 (shr .u64 (a : Int) (n : Int)) 1 = if a.testBit n then 1 else 0 := by
  rw [z5d a n hn]
  have hd : a / 2 ^ n < 2 ^ 64 := Nat.lt_of_le_of_lt (Nat.div_le_self _ _) ha
  rw [show (1 : Int) = ((1 : Nat) : Int) from rfl, z2D _ 1 hd (by decide), Nat.and_one_is_mod, Nat.testBit_eq_decide_div_mod_eq]
  by_cases c : a / 2 ^ n % 2 = 1
  · rw [c]; simp
  · rw [show a / 2 ^ n % 2 = 0 by omega]; simp
theorem z7C (x : E) (n : Nat) (hn : n < 128) : z1F.f (hi x) (lo x) (n : Int) = some (if (val x).testBit n then 1 else 0) := by
  have hx1 := z1r x.1
  have hx2 := z1r x.2
  have hQ : Q 6 = 2 ^ 64 := rfl
  rw [hQ] at hx1 hx2
  have hv : val x = 2 ^ 64 * val x.1 + val x.2 := by rw [z1N, hQ, Nat.mul_comm]
  unfold z1F.f
  rw [hv, Nat.testBit_two_pow_mul_add _ hx2]
  unfold hi lo
  by_cases c : n < 64
  · have e : IntKind.u64.wrap (n : Int) = (n : Int) := z2V (by omega) (by omega)
    rw [if_neg (by omega), e, if_pos (Int.natCast_nonneg _), z47 _ _ hx2 (by omega), if_pos c]
  · have e : IntKind.u64.wrap (wrap64 ((n : Int) - 64)) = ((n - 64 : Nat) : Int) := by
      rw [z27 (by omega) (by omega), z2V (by omega) (by omega)]; omega
    rw [if_pos (by omega), e, if_pos (Int.natCast_nonneg _), z47 _ _ hx1 (by omega), if_neg c]
theorem refOf_l0 (x : E) : ∀ (d n : Nat), n + d = 128 → Ev (fun k => zu.l0 k (n : Int) (hi x) (lo x)) (decide (val x < 2 ^ n)) := by
  intro d
  induction d with
  | zero =>
    intro n hn
    have : n = 128 := by omega
    subst this
    have := z1r x; rw [z5O] at this
    rw [decide_eq_true this]
    exact Ev.step (fun k => by rw [zu.l0]) (Ev.neg (by decide) (Ev.ret _))
  | succ d ih =>
    intro n hn
    have hn' : n < 128 := by omega
    refine Ev.step (fun k => by rw [zu.l0]) (Ev.pos (by omega) (Ev.bnd0 (z7C x n hn') ?_))
    simp only [z1C hn' (show 128 ≤ 4611686018427387904 by decide)]
    cases c : (val x).testBit n with
    | true =>
      refine Ev.pos (by simp) (Ev.ret' ?_)
      symm; rw [decide_eq_false_iff_not]
      intro h; rw [Nat.testBit_lt_two_pow h] at c; cases c
    | false =>
      refine Ev.neg (by simp) ?_
      have hih := ih (n + 1) (by omega)
      have e : decide (val x < 2 ^ (n + 1)) = decide (val x < 2 ^ n) := by
        rw [decide_eq_decide]
        constructor
        · intro h
          apply Nat.lt_pow_two_of_testBit
          intro i hi
          by_cases e : i = n
          · rw [e]; exact c
          · exact Nat.testBit_lt_two_pow (Nat.lt_of_lt_of_le h (Nat.pow_le_pow_right (by decide) (by omega)))
        · intro h; exact Nat.lt_of_lt_of_le h (Nat.pow_le_pow_right (by decide) (by omega))
      rw [← e]; exact hih
theorem refOf_ev (L : Int) (x : E) : Ev (fun k => zu.f k L (hi x) (lo x)) (decide (OfS L x)) := by
  unfold zu.f
  refine Ev.bnd0 (a := ([1, 2, 4, 8, 16, 32, 64, 128] : List Int)) rfl ?_
  by_cases h0 : L < 0
  · refine Ev.pos h0 (Ev.step (fun k => by rw [zu.j0]) (Ev.pos rfl (Ev.ret' ?_)))
    symm; rw [decide_eq_false_iff_not]; rintro ⟨h, _⟩; omega
  refine Ev.neg h0 ?_
  by_cases h7 : L > 7
  · rw [decide_eq_true h7]
    refine Ev.step (fun k => by rw [zu.j0]) (Ev.pos rfl (Ev.ret' ?_))
    symm; rw [decide_eq_false_iff_not]; rintro ⟨_, h, _⟩; omega
  rw [decide_eq_false h7]
  obtain ⟨l, rfl⟩ := Int.eq_ofNat_of_zero_le (show 0 ≤ L by omega)
  refine Ev.step (fun k => by rw [zu.j0]) (Ev.neg (by decide) (Ev.pos (Int.natCast_nonneg _) (Ev.pos (by simp; omega) ?_)))
  rw [rdL l (by omega)]
  have hp : 2 ^ l ≤ 128 := Nat.pow_le_pow_right (n := 2) (by decide) (show l ≤ 7 by omega)
  have := refOf_l0 x (128 - 2 ^ l) (2 ^ l) (by omega)
  have e : decide (val x < 2 ^ 2 ^ l) = decide (OfS (l : Int) x) := by
    rw [decide_eq_decide]; unfold OfS InL Q; rw [Int.toNat_natCast]
    exact ⟨fun h => ⟨by omega, by omega, h⟩, fun h => h.2.2⟩
  rw [← e]; exact this
/-- All of a level. -/
def AllS (L : Int) (X : List E) : Prop := ∀ x ∈ X, OfS L x
instance (L : Int) (X : List E) : Decidable (AllS L X) := by unfold AllS; infer_instance
theorem z6V {L : Int} {X : List E} {i : Nat} (h : i < X.length) : AllS L (X.drop i) ↔ OfS L (X.getD i 0) ∧ AllS L (X.drop (i + 1)) := by
  rw [List.drop_eq_getElem_cons h]
  have : X.getD i 0 = X[i] := by rw [List.getD_eq_getElem?_getD, List.getElem?_eq_getElem h]; rfl
  rw [this]
  exact List.forall_mem_cons
theorem All_l0 (L : Int) (X : List E) (hX : X.length ≤ 1000000) : ∀ (d i : Nat), i + d = X.length → Ev (fun k => zw.l0 k L (X.map toR) (i : Int)) (decide (AllS L (X.drop i))) := by
  intro d
  induction d with
  | zero =>
    intro i hi
    refine Ev.step (fun k => by rw [zw.l0]) (Ev.neg (by rw [List.length_map]; omega) (Ev.ret' ?_))
    symm; rw [decide_eq_true_eq, List.drop_eq_nil_of_le (by omega)]
    intro x hx; cases hx
  | succ d ih =>
    intro i hi
    have hi' : i < X.length := by omega
    refine Ev.step (fun k => by rw [zw.l0]) (Ev.pos (by rw [List.length_map]; omega) (Ev.pos (Int.natCast_nonneg _) ?_))
    simp only [rdR, z5G, z5H, z1C hi' (show X.length ≤ 4611686018427387904 by omega)]
    refine Ev.bnd (refOf_ev L _) ?_
    have hd := z6V (L := L) hi'
    by_cases c : OfS L (X.getD i 0)
    · refine Ev.pos (decide_eq_true c) ((ih (i + 1) (by omega)).eqn ?_)
      rw [decide_eq_decide, hd]; exact ⟨fun h => ⟨c, h⟩, fun h => h.2⟩
    · refine Ev.neg (by simpa using c) (Ev.ret' ?_)
      symm; rw [decide_eq_false_iff_not, hd]; exact fun h => c h.1
theorem All_ev (L : Int) (X : List E) (hX : X.length ≤ 1000000) : Ev (fun k => zw.f k L (X.map toR)) (decide (AllS L X)) := All_l0 L X hX X.length 0 (by omega)
theorem z56 {α β : Type} (f : α → β) (X : List α) (d : α) (i : Nat) (h : i < X.length) : (X.take (i + 1)).map f = (X.take i).map f ++ [f (X.getD i d)] := by
  rw [List.take_succ_eq_append_getElem h, List.map_append]
  have : X.getD i d = X[i] := by rw [List.getD_eq_getElem?_getD, List.getElem?_eq_getElem h]; rfl
  rw [this]; rfl
theorem Ref_l0 (X : List E) (hX : X.length ≤ 1000000) : ∀ (d i : Nat), i + d = X.length → Ev (fun k => zs.l0 k (X.map toS) ((X.take i).map toR) (i : Int)) (X.map toR) := by
  intro d
  induction d with
  | zero =>
    intro i hi
    refine Ev.step (fun k => by rw [zs.l0]) (Ev.neg (by rw [List.length_map]; omega) (Ev.ret' ?_))
    rw [List.take_of_length_le (by omega)]
  | succ d ih =>
    intro i hi
    have hi' : i < X.length := by omega
    refine Ev.step (fun k => by rw [zs.l0]) (Ev.pos (by rw [List.length_map]; omega) (Ev.pos (Int.natCast_nonneg _) (Ev.pos (by rw [List.length_map, List.length_take]; omega) ?_)))
    simp only [rdS, z3K, z3L, z1C hi' (show X.length ≤ 4611686018427387904 by omega)]
    have hih := ih (i + 1) (by omega)
    rw [z56 toR X 0 i hi'] at hih
    exact hih
theorem Ref_ev (X : List E) (hX : X.length ≤ 1000000) : Ev (fun k => zs.f k (X.map toS)) (X.map toR) := Ref_l0 X hX X.length 0 (by omega)
theorem Same_l0 (X Y : List E) (hl : X.length = Y.length) (hX : X.length ≤ 1000000) : ∀ (d i : Nat), i + d = X.length → (∀ j, j < i → X.getD j 0 = Y.getD j 0) → Ev (fun k => zo.l0 k (X.map toS) (Y.map toR) (i : Int)) (decide (X = Y)) := by
  intro d
  induction d with
  | zero =>
    intro i hi h
    refine Ev.step (fun k => by rw [zo.l0]) (Ev.neg (by rw [List.length_map]; omega) (Ev.ret' ?_))
    symm; rw [decide_eq_true_eq]
    apply List.ext_getElem hl
    intro j h1 h2
    have := h j (by omega)
    simpa [List.getD_eq_getElem?_getD, h1, h2] using this
  | succ d ih =>
    intro i hid h
    have hi' : i < X.length := by omega
    refine Ev.step (fun k => by rw [zo.l0]) (Ev.pos (by rw [List.length_map]; omega) (Ev.pos (Int.natCast_nonneg _) (Ev.pos (by rw [List.length_map]; omega) ?_)))
    simp only [rdS, rdR, z3K, z3L, z5G, z5H, z1C hi' (show X.length ≤ 4611686018427387904 by omega)]
    by_cases c : X.getD i 0 = Y.getD i 0
    · refine Ev.neg (by rw [c]; simp) (ih (i + 1) (by omega) (fun j hj => ?_))
      by_cases e : j = i
      · rw [e]; exact c
      · exact h j (by omega)
    · refine Ev.pos ?_ (Ev.ret' ?_)
      · simp only [Bool.or_eq_true, Bool.not_eq_true', beq_eq_false_iff_ne]
        by_cases e : hi (X.getD i 0) = hi (Y.getD i 0)
        · right; intro e2; exact c (z69 e e2)
        · left; exact e
      · symm; rw [decide_eq_false_iff_not]
        rintro rfl; exact c rfl
theorem z5Q (X Y : List E) (hX : X.length ≤ 1000000) : Ev (fun k => zo.f k (X.map toS) (Y.map toR)) (decide (X = Y)) := by
  unfold zo.f
  by_cases h : X.length = Y.length
  · exact Ev.pos (by rw [List.length_map, List.length_map]; omega) (Same_l0 X Y h hX X.length 0 (by omega) (fun j hj => by omega))
  · refine Ev.neg (by rw [List.length_map, List.length_map]; omega) (Ev.ret' ?_)
    symm; rw [decide_eq_false_iff_not]
    rintro rfl; exact h rfl
/-- The same element? as the program asks. -/
theorem eq_pair (x y : E) : (hi x == hi y && (lo x == lo y)) = decide (x = y) := by
  rw [Bool.eq_iff_iff, Bool.and_eq_true, beq_iff_eq, beq_iff_eq, decide_eq_true_eq]
  exact ⟨fun h => z69 h.1 h.2, fun h => by rw [h]; exact ⟨rfl, rfl⟩⟩
theorem z79 (x : E) : (hi x == 0 && (lo x == 0)) = decide (x = 0) := by
  rw [← eq_pair, z2E, z2G]
end Go.Proofs.Ytkhmpaooinpfoaa.Sp
/- The bits of an element as the program tells them. Own text. -/
namespace Go.Proofs.Ytkhmpaooinpfoaa.Sp
open Go.RowKit Go.Proofs.YtkhmpaooinpfoaaW.PrintWords Go.Proofs.YtkhmpaooinpfoaaW.PrintMore Go.Proofs.Ytkhmpaooinpfoaa.P Go.Proofs.Ytkhmpaooinpfoaa.Ar Go.Proofs.Ytkhmpaooinpfoaa.Tw
set_option linter.unusedVariables false
theorem z2r (n : Nat) (hn : n < 128) : Ev (fun k => zI.f k (n : Int)) (hi (bitE n), lo (bitE n)) := by
  obtain ⟨h1, h2⟩ := z5S hn
  unfold zI.f
  refine Ev.pos (by omega) ?_
  by_cases c : n < 64
  · rw [if_pos c] at h1 h2
    rw [h1, h2, decide_eq_true (show (n : Int) < 64 by omega)]
    refine Ev.step (fun k => by rw [zI.j0]) (Ev.pos rfl (Ev.pos (Int.natCast_nonneg _) (Ev.ret' ?_)))
    rw [z37 n (by omega)]
  · rw [if_neg c] at h1 h2
    rw [h1, h2, decide_eq_false (show ¬ (n : Int) < 64 by omega)]
    have e : wrap64 ((n : Int) - 64) = ((n - 64 : Nat) : Int) := by rw [z27 (by omega) (by omega)]; omega
    refine Ev.step (fun k => by rw [zI.j0]) (Ev.neg (by decide) (Ev.pos (by omega) (Ev.pos (by omega) ?_)))
    rw [e]
    exact Ev.pos (Int.natCast_nonneg _) (Ev.ret' (by rw [z37 (n - 64) (by omega)]))
def bitsL (x : E) (n : Nat) : List Bool := (List.range n).map fun i => (val x).testBit i
theorem z5I (x : E) (N : Nat) (hN : N ≤ 128) : ∀ (d n : Nat), n + d = N → Ev (fun k => zK.l0 k (bitsL x n) (N : Int) (n : Int) (hi x) (lo x)) (bitsL x N) := by
  intro d
  induction d with
  | zero =>
    intro n hn
    have : n = N := by omega
    subst this
    exact Ev.step (fun k => by rw [zK.l0]) (Ev.neg (by omega) (Ev.ret _))
  | succ d ih =>
    intro n hn
    have hn' : n < N := by omega
    have hih := ih (n + 1) (by omega)
    have hs : bitsL x (n + 1) = bitsL x n ++ [(val x).testBit n] := by unfold bitsL; rw [List.range_succ, List.map_append]; rfl
    have hl : (bitsL x n).length < 140737488355328 := by unfold bitsL; rw [List.length_map, List.length_range]; omega
    rw [hs] at hih
    refine Ev.step (fun k => by rw [zK.l0]) (Ev.pos (by omega) (Ev.bnd (z2r n (by omega)) ?_))
    refine Ev.pos hl ?_
    simp only [hasBits x n (show n < 128 by omega), z1C hn' (show N ≤ 4611686018427387904 by omega)]
    exact hih
theorem z3M {l : Nat} (hl : l ≤ 7) (x : E) (hx : OfS (l : Int) x) : Ev (fun k => zK.f k (l : Int) (hi x) (lo x)) (bitsL x (2 ^ l)) := by
  unfold zK.f
  refine Ev.bnd (z5v (l : Int) x) (Ev.pos (decide_eq_true hx) (Ev.pos (Int.natCast_nonneg _) ?_))
  rw [z5c l (by omega)]
  exact z5I x (2 ^ l) (Nat.pow_le_pow_right (n := 2) (by decide) hl) (2 ^ l) 0 (Nat.zero_add _)
end Go.Proofs.Ytkhmpaooinpfoaa.Sp
/- Powers of two as the document's Two tells them. Own text. -/
namespace Go.Proofs.Ytkhmpaooinpfoaa.Sp
open Go.RowKit Go.Proofs.YtkhmpaooinpfoaaW.PrintWords Go.Proofs.YtkhmpaooinpfoaaW.PrintMore Go.Proofs.Ytkhmpaooinpfoaa.P Go.Proofs.Ytkhmpaooinpfoaa.Ar
set_option linter.unusedVariables false
set_option linter.unusedSimpArgs false
theorem z7y {n : Nat} (h : n ≤ 61) : 2 ^ n ≤ 2305843009213693952 := by
  have : (2 : Nat) ^ n ≤ 2 ^ 61 := Nat.pow_le_pow_right (by decide) h
  simpa using this
theorem two_l0 (n : Nat) (h : n ≤ 61) : ∀ d i, i + d = n → Ev (fun k => zH.l0 k (n : Int) ((2 ^ i : Nat) : Int) (i : Int)) ((2 ^ n : Nat) : Int) := by
  intro d
  induction d with
  | zero =>
    intro i hi
    have hi : i = n := by omega
    subst hi
    exact Ev.step (fun k => by rw [zH.l0]) (Ev.neg (by omega) (Ev.ret _))
  | succ d ih =>
    intro i hi
    refine Ev.step (fun k => by rw [zH.l0]) (Ev.pos (by omega) ?_)
    have h1 := z7y (n := i) (by omega)
    have e1 : wrap64 (2 * ((2 ^ i : Nat) : Int)) = ((2 ^ (i + 1) : Nat) : Int) := by
      rw [Nat.pow_succ]
      generalize 2 ^ i = p at h1 ⊢
      rw [z27 (by omega) (by omega)]; omega
    have e2 : wrap64 ((i : Int) + 1) = ((i + 1 : Nat) : Int) := by rw [z27 (by omega) (by omega)]; omega
    rw [e1, e2]
    exact ih (i + 1) (by omega)
theorem two_ev (n : Nat) (h : n ≤ 61) : Ev (fun k => zH.f k (n : Int)) ((2 ^ n : Nat) : Int) := two_l0 n h n 0 (by omega)
end Go.Proofs.Ytkhmpaooinpfoaa.Sp
namespace Go.Proofs.Ytkhmpaooinpfoaa.P
open Go.RowKit Go.Proofs.YtkhmpaooinpfoaaW.PrintWords Go.Proofs.YtkhmpaooinpfoaaW.PrintLast Go.Proofs.YtkhmpaooinpfoaaW.PrintMore
attribute [local go_sem] z12 z14 z1b z1c zW zX z13 z15   -- for this text's walks alone
set_option linter.unusedVariables false
set_option linter.unusedSimpArgs false
def z2l.f (k : Nat) (a0 : Int) : Option ((List (S30))):=(z21.f).bind fun bt101=>((zN.f k a0 bt101.1 bt101.2).bind fun t103=>(some t103))
theorem z2l.mono : ∀ a0 k,LeO (z2l.f k a0) (z2l.f (k + 1) a0):=by
 intro a0 k
 unfold z2l.f
 repeat' first
  | (with_reducible exact zN.mono _ _ _ _)
  | (with_reducible exact LeO.refl _)
  | (with_reducible exact LeO.none _)
  | (with_reducible refine LeO.ite ?_ ?_)
  | (with_reducible refine LeO.bind ?_ (fun _=>?_))
  | exact zN.mono _ _ _ _
  | exact LeO.none _
  | refine LeO.ite ?_ ?_
  | refine LeO.bind ?_ (fun _=>?_)
set_option maxHeartbeats 8000000 in
set_option maxRecDepth 100000 in
theorem z2l.calls (k : Nat) (a0 : Int) (r : List (S30)) (w : World) (h : z2l.f k a0 = some r) :
 Calls Try.prog 47 #[.int .i64 a0] w fun e w'=>∃ v0_ : Value,e = .returned (v0_) ∧ Kd.R k30 30 w' w.heap.size (fun _=>True) v0_ r ∧ Below w.heap.size w w':=by
 have HB:=z1.mk (Below.refl w.heap.size w)
 have H : ((z21.f).bind fun bt101=>((zN.f k a0 bt101.1 bt101.2).bind fun t103=>(some t103))) = some r:=h
 clear h
 replace H:=Option.bind_eq_some_iff.mp H
 obtain ⟨⟨t101,t102⟩,A20,H⟩:=H
 replace H : ((zN.f k a0 t101 t102).bind fun t103=>(some t103)) = some r:=H
 have A2:=z1.mk A20
 clear A20
 replace H:=Option.bind_eq_some_iff.mp H
 obtain ⟨t103,A30,H⟩:=H
 replace H : (some t103) = some r:=H
 have A3:=z1.mk A30
 clear A30
 obtain rfl:=Option.some.inj H
 go_enter Try.func47,Try.ntmps47
 go_wp2_with (first|((with_reducible refine zl (f:=99) rfl ?_);refine goesL_ (some 4) rfl rfl Try.func99 zz78 rfl #[] rfl zz27 ?_;(with_reducible refine (z21.calls  t101 t102 _ A2.out).mono ?_);rintro e w4 ⟨rfl,hb⟩;refine ⟨_,rfl,?_⟩;have n0_:=z1.mk (z4 zz28 hb);clear HB;have HB:=n0_;clear n0_;(try clear hb);(try clear hb2);(try clear hk);(try clear hi))|((with_reducible refine zl (f:=88) rfl ?_);refine goesL_ (some 5) rfl rfl Try.func88 zz78 rfl #[.int .i64 a0,.agg #[.int .u64 t101,.int .u64 t102]] rfl zz27 ?_;(with_reducible refine (zN.calls k a0 t101 t102 t103 _ A3.out).mono ?_);rintro e w5 ⟨v104,rfl,ho0,hb⟩;refine ⟨_,rfl,?_⟩;have n0_:=z1.mk (Kd.z1l ho0 (z5 zz28));have n1_:=z1.mk (z4 zz28 hb);clear HB;have HO105:=n0_;have HB:=n1_;clear n0_ n1_;(try clear hb);(try clear hb2);(try clear hk);(try clear hi);(try clear ho0)))
 go_ret
 exact ⟨_,by first|rfl|(simp [zi,zj] <;> rfl)|(simp [*,zi,zj] <;> rfl),by (with_reducible repeat (first|apply Kd.zC|apply Kd.zD|apply Kd.zO));exact HO105.out,by repeat (first|(with_reducible first|exact HB.out|apply z7|apply z2|apply z6)|exact HB.out)⟩
end Go.Proofs.Ytkhmpaooinpfoaa.P
/- Pairs of elements: what is on the left, on the right, and the document's pairs. Own text. -/
namespace Go.Proofs.Ytkhmpaooinpfoaa.Sp
open Go.RowKit Go.Proofs.YtkhmpaooinpfoaaW.PrintWords Go.Proofs.YtkhmpaooinpfoaaW.PrintMore Go.Proofs.Ytkhmpaooinpfoaa.P Go.Proofs.Ytkhmpaooinpfoaa.Ar Go.Proofs.Ytkhmpaooinpfoaa.Tw
set_option linter.unusedVariables false
/-- The pair of x and y: y beside each bit that x has. -/
def pick (b : Bool) (y : E) : E := if b then y else 0
theorem z1x (y : E) : pick true y = y := if_pos rfl
theorem z1f (y : E) : pick false y = 0 := if_neg Bool.false_ne_true
def pairX (n : Nat) (x y : E) : List E := (List.range n).map fun i => pick ((val x).testBit i) y
theorem z1R (n : Nat) (x y : E) : (pairX n x y).length = n := by simp [pairX]
theorem z2P {α : Type} (f : Nat → α) (d : α) (n i : Nat) (h : i < n) : ((List.range n).map f).getD i d = f i := by
  rw [List.getD_eq_getElem?_getD, List.getElem?_map, List.getElem?_range h]; rfl
theorem z4e {α : Type} (f : Nat → α) (n : Nat) : (List.range (n + 1)).map f = (List.range n).map f ++ [f n] := by
  rw [List.range_succ, List.map_append]; rfl
theorem z3C (n : Nat) (x y : E) (i : Nat) (h : i < n) : (pairX n x y).getD i 0 = pick ((val x).testBit i) y := z2P (fun i => pick ((val x).testBit i) y) 0 n i h
theorem z4L (n : Nat) (x y : E) : pairX (n + 1) x y = pairX n x y ++ [pick ((val x).testBit n) y] := z4e _ n
theorem w128 {l : Nat} (hl : l ≤ 7) : 2 ^ l ≤ 128 := Nat.pow_le_pow_right (n := 2) (by decide) hl
theorem z4l {l : Nat} (hl : l ≤ 7) : Ev (fun k => zP.f k (l : Int)) ((2 ^ l : Nat) : Int) := by
  obtain ⟨v, hv, ev⟩ := wide_in (L := (l : Int)) ⟨by omega, by omega⟩
  unfold zP.f
  refine Ev.bnd ev (Ev.neg hv (Ev.pos (Int.natCast_nonneg _) (Ev.ret' ?_)))
  exact z5c l (by omega)
theorem size_out {L : Int} (h : ¬ LvS L) : Ev (fun k => zP.f k L) 0 := by
  unfold zP.f
  exact Ev.bnd (wide_out h) (Ev.pos rfl (Ev.ret _))
theorem lv_of {L : Int} {x : E} (h : OfS L x) : LvS L := ⟨h.1, h.2.1⟩
theorem left_l0 (x : E) (n : Nat) (hn : n ≤ 128) : ∀ (d i : Nat), i + d = n → Ev (fun k => zN.l0 k ((pairX i x 1 ++ List.replicate (n - i) 0).map toS) (bitsL x n) (n : Int) (i : Int)) ((pairX n x 1).map toS) := by
  intro d
  induction d with
  | zero =>
    intro i hid
    have : i = n := by omega
    subst this
    rw [Nat.sub_self, List.replicate_zero, List.append_nil]
    exact Ev.step (fun k => by rw [zN.l0]) (Ev.neg (by omega) (Ev.ret _))
  | succ d ih =>
    intro i hid
    have hi' : i < n := by omega
    have hih := ih (i + 1) (by omega)
    have hlb : (bitsL x n).length = n := by unfold bitsL; simp
    have hb : (bitsL x n).getD i false = (val x).testBit i := z2P _ false n i hi'
    have hp := z4L i x 1
    have hr : List.replicate (n - i) (0 : E) = 0 :: List.replicate (n - (i + 1)) 0 := by rw [show n - i = (n - (i + 1)) + 1 by omega, List.replicate_succ]
    have c3 : (i : Int) < (((pairX i x 1 ++ List.replicate (n - i) (0 : E)).map toS).length : Int) := by
      rw [List.length_map, List.length_append, z1R, List.length_replicate]; omega
    refine Ev.step (fun k => by rw [zN.l0]) (Ev.pos (by omega) (Ev.pos (Int.natCast_nonneg _) (Ev.pos (by rw [hlb]; omega) ?_)))
    simp only [z7A, hb, z1C hi' (show n ≤ 4611686018427387904 by omega)]
    cases c : (val x).testBit i with
    | true =>
      refine Ev.pos rfl (Ev.bnd0 One_eq (Ev.pos c3 ?_))
      have e : ((pairX i x 1 ++ List.replicate (n - i) (0 : E)).map toS).set (i : Int).toNat (⟨hi 1, lo 1⟩ : S30) = (pairX (i + 1) x 1 ++ List.replicate (n - (i + 1)) 0).map toS := by
        have : (⟨hi 1, lo 1⟩ : S30) = toS 1 := rfl
        rw [Int.toNat_natCast, this, ← List.map_set, hr, hp, c, z1x, List.append_assoc]
        congr 1
        rw [List.set_append_right _ _ (by rw [z1R]; exact Nat.le_refl _), z1R, Nat.sub_self, List.set_cons_zero]; rfl
      rw [e]; exact hih
    | false =>
      refine Ev.neg (by decide) ?_
      rw [hp, c, z1f, List.append_assoc] at hih
      rw [hr]; exact hih
theorem z3Z (n : Nat) : List.replicate n z30 = (List.replicate n (0 : E)).map toS := by rw [List.map_replicate, z6m]
/-- What stands on the left: x beside 1. -/
def leftO (L : Int) (x : E) : List E := if OfS L x then pairX (2 ^ L.toNat) x 1 else []
def rightO (L : Int) (x : E) : List E := if OfS L x then pairX (2 ^ L.toNat) 1 x else []
theorem Left_ev (L : Int) (x : E) : Ev (fun k => zN.f k L (hi x) (lo x)) ((leftO L x).map toS) := by
  unfold zN.f
  refine Ev.bnd (z5v L x) ?_
  by_cases c : OfS L x
  · obtain ⟨l, rfl⟩ := Int.eq_ofNat_of_zero_le c.1
    have hl : l ≤ 7 := by have := c.2.1; omega
    have h128 := w128 hl
    have e : leftO (l : Int) x = pairX (2 ^ l) x 1 := by unfold leftO; rw [if_pos c, Int.toNat_natCast]
    rw [e]
    have c128 : (((2 ^ l : Nat) : Int)).toNat ≤ 17592186044416 := by rw [Int.toNat_natCast]; exact Nat.le_trans h128 (by decide)
    refine Ev.pos (decide_eq_true c) ?_
    refine Ev.bnd (z4l hl) ?_
    refine Ev.pos (Int.natCast_nonneg _) ?_
    refine Ev.pos c128 ?_
    refine Ev.bnd (z3M hl x c) ?_
    have hlb : (bitsL x (2 ^ l)).length = 2 ^ l := by unfold bitsL; simp
    rw [hlb, z3Z, Int.toNat_natCast]
    exact left_l0 x (2 ^ l) h128 (2 ^ l) 0 (Nat.zero_add _)
  · have e : leftO L x = [] := if_neg c
    rw [e]
    exact Ev.neg (by simpa using c) (Ev.ret _)
theorem One_ev (L : Int) : Ev (fun k => z2l.f k L) ((leftO L 1).map toS) := by
  unfold z2l.f
  exact Ev.bnd0 One_eq (Ev.bnd (Left_ev L 1) (Ev.ret _))
theorem one_bit (i : Nat) : (val (1 : E)).testBit i = decide (i = 0) := by
  rw [z2T, show (1 : Nat) = 2 ^ 0 from rfl, Nat.testBit_two_pow]
  simp [eq_comm]
theorem z7u (n : Nat) (x : E) (hn : 0 < n) : pairX n 1 x = (List.replicate n (0 : E)).set 0 x := by
  apply List.ext_getElem
  · rw [z1R]; simp
  · intro i h1 h2
    rw [z1R] at h1
    have e1 : (pairX n 1 x)[i] = (pairX n 1 x).getD i 0 := by rw [List.getD_eq_getElem?_getD, List.getElem?_eq_getElem (by rw [z1R]; exact h1)]; rfl
    rw [e1, z3C n 1 x i h1, one_bit, List.getElem_set]
    by_cases c : i = 0
    · subst c; simp [z1x]
    · rw [decide_eq_false c, z1f, if_neg (fun h => c h.symm), List.getElem_replicate]
theorem Right_ev (L : Int) (x : E) : Ev (fun k => z1s.f k L (hi x) (lo x)) ((rightO L x).map toS) := by
  unfold z1s.f
  refine Ev.bnd (z5v L x) ?_
  by_cases c : OfS L x
  · obtain ⟨l, rfl⟩ := Int.eq_ofNat_of_zero_le c.1
    have hl : l ≤ 7 := by have := c.2.1; omega
    have h128 := w128 hl
    have h0 := Nat.two_pow_pos l
    have e : rightO (l : Int) x = pairX (2 ^ l) 1 x := by unfold rightO; rw [if_pos c, Int.toNat_natCast]
    rw [e, z7u _ _ h0]
    have c128 : (((2 ^ l : Nat) : Int)).toNat ≤ 17592186044416 := by rw [Int.toNat_natCast]; exact Nat.le_trans h128 (by decide)
    refine Ev.pos (decide_eq_true c) ?_
    refine Ev.bnd (z4l hl) ?_
    refine Ev.pos (Int.natCast_nonneg _) ?_
    refine Ev.pos c128 ?_
    refine Ev.bnd0 rfl ?_
    refine Ev.pos ?_ (Ev.ret' ?_)
    · rw [List.length_replicate, Int.toNat_natCast]; omega
    · rw [z3Z, Int.toNat_natCast]
      have : (⟨hi x, lo x⟩ : S30) = toS x := rfl
      rw [this, ← List.map_set]; rfl
  · have e : rightO L x = [] := if_neg c
    rw [e]
    exact Ev.neg (by simpa using c) (Ev.ret _)
theorem z61 (l : Nat) (hl : l ≤ 61) : Ev (fun k => zQ.f k (l : Int)) ((2 ^ l : Nat) : Int) := by
  unfold zQ.f
  exact Ev.bnd (two_ev l hl) (Ev.ret _)
theorem pair_l0 (l : Nat) (hl : l ≤ 7) (x y : E) : ∀ (d i : Nat), i + d = 2 ^ l → Ev (fun k => zm.l0 k (l : Int) ((pairX i x y).map toR) (i : Int) (hi x) (lo x) (hi y) (lo y)) ((pairX (2 ^ l) x y).map toR) := by
  have h128 := w128 hl
  intro d
  induction d with
  | zero =>
    intro i hi
    have : i = 2 ^ l := by omega
    subst this
    exact Ev.step (fun k => by rw [zm.l0]) (Ev.bnd (z61 l (by omega)) (Ev.neg (Int.lt_irrefl _) (Ev.ret _)))
  | succ d ih =>
    intro i hi
    have hi' : i < 2 ^ l := by omega
    have hih := ih (i + 1) (by omega)
    have hp := z4L i x y
    have c3 : ((pairX i x y).map toR).length < 8796093022208 := by rw [List.length_map, z1R]; omega
    have hn19 := z61 l (by omega)
    refine Ev.step (fun k => by rw [zm.l0]) (Ev.bnd hn19 ?_)
    refine Ev.pos (show (i : Int) < ((2 ^ l : Nat) : Int) by omega) ?_
    refine Ev.bnd (Has_ev x i (by omega)) ?_
    simp only [z1C hi' (show 2 ^ l ≤ 4611686018427387904 by omega)]
    cases c : (val x).testBit i with
    | true =>
      rw [hp, c, z1x, List.map_append] at hih
      exact Ev.pos rfl (Ev.pos c3 hih)
    | false =>
      rw [hp, c, z1f, List.map_append] at hih
      refine Ev.neg (by decide) (Ev.pos c3 ?_)
      have e : [(⟨0, 0⟩ : S40)] = [(0 : E)].map toR := by
        show _ = [toR (0 : E)]
        unfold toR; rw [z2E, z2G]
      rw [e]; exact hih
theorem z4S {l : Nat} (hl : l ≤ 7) (x y : E) : Ev (fun k => zm.f k (l : Int) (hi x) (lo x) (hi y) (lo y)) ((pairX (2 ^ l) x y).map toR) := by
  unfold zm.f
  exact pair_l0 l hl x y (2 ^ l) 0 (Nat.zero_add _)
end Go.Proofs.Ytkhmpaooinpfoaa.Sp
/- Sums of elements, weights and values of tables; lists of elements. Own text; nothing of the program in it. -/
namespace Go.Proofs.Ytkhmpaooinpfoaa.Sp
open Go.RowKit Go.Proofs.YtkhmpaooinpfoaaW.PrintWords Go.Proofs.YtkhmpaooinpfoaaW.PrintMore Go.Proofs.Ytkhmpaooinpfoaa.P Go.Proofs.Ytkhmpaooinpfoaa.Ar Go.Proofs.Ytkhmpaooinpfoaa.Tw
set_option linter.unusedVariables false
set_option linter.unusedSimpArgs false
/-- Sums. -/
def sumN (f : Nat → E) : Nat → E
  | 0 => 0
  | n + 1 => sumN f n + f n
theorem z1D {f g : Nat → E} : ∀ n, (∀ i, i < n → f i = g i) → sumN f n = sumN g n
  | 0, _ => rfl
  | n + 1, h => by rw [sumN, sumN, z1D n (fun i hi => h i (by omega)), h n (by omega)]
theorem z3e (f g : Nat → E) : ∀ n, sumN (fun i => f i + g i) n = sumN f n + sumN g n
  | 0 => (add_zero _).symm
  | n + 1 => by
    rw [sumN, sumN, sumN, z3e f g n]
    simp only [add_assoc, z25]
theorem z6l (c : E) (f : Nat → E) : ∀ n, sumN (fun i => c * f i) n = c * sumN f n
  | 0 => (z2B _).symm
  | n + 1 => by rw [sumN, sumN, z6l c f n, mul_add]
theorem z4q : ∀ n, sumN (fun _ => (0 : E)) n = 0
  | 0 => rfl
  | n + 1 => by rw [sumN, z4q n, add_zero]
theorem z4n (f : Nat → E) : ∀ n, sumN f (2 * n) = sumN (fun i => f (2 * i) + f (2 * i + 1)) n
  | 0 => rfl
  | n + 1 => by
    rw [show 2 * (n + 1) = 2 * n + 1 + 1 by omega, sumN, sumN, sumN, z4n f n, add_assoc]
theorem z4N (f : Nat → E) (m : Nat) : ∀ n, sumN f (m + n) = sumN f m + sumN (fun i => f (m + i)) n
  | 0 => (add_zero _).symm
  | n + 1 => by rw [← Nat.add_assoc, sumN, sumN, z4N f m n, add_assoc]
/-- A corner's weight at a point. -/
def weight : List E → Nat → E
  | [], _ => 1
  | p :: ps, i => (if i % 2 = 1 then p else 1 + p) * weight ps (i / 2)
/-- A table's value at a point. -/
def value (X P : List E) : E := sumN (fun i => X.getD i 0 * weight P i) X.length
/-- A table bound in its first variable. -/
def first (r : E) (X : List E) : List E := (List.range (X.length / 2)).map fun i => X.getD (2 * i) 0 + r * (X.getD (2 * i) 0 + X.getD (2 * i + 1) 0)
def firsts : List E → List E → List E
  | [], X => X
  | r :: rs, X => firsts rs (first r X)
theorem z32 (r : E) (X : List E) : (first r X).length = X.length / 2 := by simp [first]
theorem z6t (r : E) (X : List E) (i : Nat) (h : i < X.length / 2) : (first r X).getD i 0 = X.getD (2 * i) 0 + r * (X.getD (2 * i) 0 + X.getD (2 * i + 1) 0) := by
  rw [List.getD_eq_getElem?_getD]; simp [first, h]
theorem z6r (a b r : E) : a + r * (a + b) = (1 + r) * a + r * b := by
  rw [add_mul, one_mul, mul_add, add_assoc]
theorem z5Y (X : List E) (r : E) (P : List E) (h : X.length = 2 * (X.length / 2)) : value X (r :: P) = value (first r X) P := by
  unfold value
  rw [z32]
  conv => lhs; rw [h]
  rw [z4n]
  apply z1D
  intro i hi
  rw [z6t r X i hi, weight, weight, if_neg (by omega), if_pos (by omega), show 2 * i / 2 = i by omega, show (2 * i + 1) / 2 = i by omega, z6r]
  rw [← mul_assoc, ← mul_assoc, mul_comm (X.getD (2 * i) 0), mul_comm (X.getD (2 * i + 1) 0), ← add_mul]
theorem pow_len {X : List E} {k : Nat} (h : X.length = 2 ^ (k + 1)) : X.length = 2 * (X.length / 2) := by rw [h, Nat.pow_succ]; omega
theorem z3p : ∀ (R X : List E) (k : Nat), X.length = 2 ^ k → R.length ≤ k → (firsts R X).length = 2 ^ (k - R.length)
  | [], X, k, h, _ => by rw [firsts, h]; rfl
  | r :: rs, X, k, h, hk => by
    rw [List.length_cons] at hk
    obtain ⟨k', rfl⟩ : ∃ k', k = k' + 1 := ⟨k - 1, by omega⟩
    rw [firsts, z3p rs (first r X) k' (by rw [z32, h, Nat.pow_succ]; omega) (by omega), List.length_cons]
    congr 1; omega
theorem z3N : ∀ (R X P : List E) (k : Nat), X.length = 2 ^ k → R.length ≤ k → value X (R ++ P) = value (firsts R X) P
  | [], X, P, k, _, _ => rfl
  | r :: rs, X, P, k, h, hk => by
    rw [List.length_cons] at hk
    obtain ⟨k', rfl⟩ : ∃ k', k = k' + 1 := ⟨k - 1, by omega⟩
    rw [List.cons_append, z5Y X r (rs ++ P) (pow_len h), firsts]
    exact z3N rs (first r X) P k' (by rw [z32, h, Nat.pow_succ]; omega) (by omega)
theorem z7K {X : List E} (h : X.length = 1) : value X [] = X.getD 0 0 := by
  unfold value; rw [h, sumN, sumN, zero_add, weight, mul_one]
theorem value_eq (X P : List E) (h : X.length = 2 ^ P.length) : value X P = (firsts P X).getD 0 0 := by
  have := z3N P X [] P.length h (Nat.le_refl _)
  rw [List.append_nil] at this
  rw [this, z7K (by rw [z3p P X P.length h (Nat.le_refl _), Nat.sub_self, Nat.pow_zero])]

/-- k of 2^k, as both tell it. -/
theorem map_set {α β : Type} (f : α → β) (X : List α) (i : Nat) (x : α) : (X.map f).set i (f x) = (X.set i x).map f := by rw [List.map_set]
theorem z7G (x : E) : (⟨hi x, lo x⟩ : S30) = toS x := rfl
theorem toR_mk (x : E) : (⟨hi x, lo x⟩ : S40) = toR x := rfl
theorem z51 {X : List E} {i : Nat} (h : i < X.length) (x : E) : (X.set i x).getD i 0 = x := by
  rw [List.getD_eq_getElem?_getD, List.getElem?_set_self h]; rfl
theorem getD_set_ne {X : List E} {i j : Nat} (h : i ≠ j) (x : E) : (X.set i x).getD j 0 = X.getD j 0 := by
  rw [List.getD_eq_getElem?_getD, List.getD_eq_getElem?_getD, List.getElem?_set_ne h]
theorem z50 {X Y : List E} (hl : X.length = Y.length) (h : ∀ i, i < X.length → X.getD i 0 = Y.getD i 0) : X = Y := by
  apply List.ext_getElem hl
  intro j h1 h2
  have := h j h1
  simpa [List.getD_eq_getElem?_getD, h1, h2] using this
theorem getD_take {X : List E} {i m : Nat} (h : i < m) : (X.take m).getD i 0 = X.getD i 0 := by
  rw [List.getD_eq_getElem?_getD, List.getD_eq_getElem?_getD, List.getElem?_take_of_lt h]
theorem z2Z {l : Nat} {X : List E} (h : AllS (l : Int) X) (i : Nat) : InL l (X.getD i 0) := by
  rw [List.getD_eq_getElem?_getD]
  by_cases c : i < X.length
  · rw [List.getElem?_eq_getElem c]
    have := (h _ (List.getElem_mem c)).2.2
    rw [Int.toNat_natCast] at this; exact this
  · rw [List.getElem?_eq_none (by omega)]; exact z54 l
theorem allS_first {l : Nat} (hl : l ≤ 7) {X : List E} {r : E} (hX : AllS (l : Int) X) (hr : InL l r) : AllS (l : Int) (first r X) := by
  intro x hx
  unfold first at hx
  rw [List.mem_map] at hx
  obtain ⟨i, _, rfl⟩ := hx
  refine ⟨by omega, by omega, ?_⟩
  rw [Int.toNat_natCast]
  exact z52 (z2Z hX _) (z4a hl hr (z52 (z2Z hX _) (z2Z hX _)))
theorem half_len (n : Nat) (h : n ≤ 1000000) : wrap64 ((n : Int) / 2) = ((n / 2 : Nat) : Int) := by rw [z27 (by omega) (by omega)]; omega
theorem w64_dbl {i : Nat} (h : i ≤ 1000000) : wrap64 (2 * (i : Int)) = ((2 * i : Nat) : Int) := by rw [z27 (by omega) (by omega)]; omega
end Go.Proofs.Ytkhmpaooinpfoaa.Sp
/- Sums of pairs of elements: bits of elements are sums, and a pair times an element on the left is the pair of the product. Own text; nothing of the program in it. -/
namespace Go.Proofs.Ytkhmpaooinpfoaa.Sp
open Go.RowKit Go.Proofs.YtkhmpaooinpfoaaW.PrintWords Go.Proofs.YtkhmpaooinpfoaaW.PrintMore Go.Proofs.Ytkhmpaooinpfoaa.P Go.Proofs.Ytkhmpaooinpfoaa.Ar Go.Proofs.Ytkhmpaooinpfoaa.Tw
set_option linter.unusedVariables false
theorem z3X (b : Bool) (y z : E) : pick b (y + z) = pick b y + pick b z := by
  cases b
  · rw [z1f, z1f, z1f, add_zero]
  · rw [z1x, z1x, z1x]
theorem z5b (b : Bool) (y z : E) : pick b (y * z) = pick b y * z := by
  cases b
  · rw [z1f, z1f, zero_mul]
  · rw [z1x, z1x]
theorem z36 (b : Bool) : pick b (0 : E) = 0 := by
  cases b
  · exact z1f _
  · exact z1x _
theorem pick_xor (a b : Bool) (y : E) : pick (a ^^ b) y = pick a y + pick b y := by
  cases a <;> cases b
  · show pick false y = _; rw [z1f, add_zero]
  · show pick true y = _; rw [z1f, z1x, zero_add]
  · show pick true y = _; rw [z1f, z1x, add_zero]
  · show pick false y = _; rw [z1f, z1x, z2h]
theorem z7w (a b : Bool) (y : E) : pick a (pick b y) = pick b (pick a y) := by
  cases a <;> cases b <;> simp only [z1x, z1f]
/-- Has an element the bit? -/
def hasB (x : E) (k : Nat) : Bool := (val x).testBit k
theorem hasB_add (x y : E) (k : Nat) : hasB (x + y) k = (hasB x k ^^ hasB y k) := by
  unfold hasB; rw [z1M, Nat.testBit_xor]
theorem z5t (k : Nat) : hasB 0 k = false := by unfold hasB; rw [z1E, Nat.zero_testBit]
/-- What the bit k of z picks of y is a sum in z. -/
theorem z3t (x z y : E) (k : Nat) : pick (hasB (x + z) k) y = pick (hasB x k) y + pick (hasB z k) y := by rw [hasB_add, pick_xor]
theorem z3u (f : Nat → E) (y : E) (k : Nat) : ∀ n, pick (hasB (sumN f n) k) y = sumN (fun u => pick (hasB (f u) k) y) n
  | 0 => by rw [sumN, sumN, z5t, z1f]
  | n + 1 => by rw [sumN, sumN, z3t, z3u f y k n]
theorem z4y (b : Bool) (x y : E) (k : Nat) : pick (hasB (pick b x) k) y = pick b (pick (hasB x k) y) := by
  cases b
  · rw [z1f, z1f, z5t, z1f]
  · rw [z1x, z1x]
theorem z6g (b : Bool) (f : Nat → E) : ∀ n, pick b (sumN f n) = sumN (fun u => pick b (f u)) n
  | 0 => z36 b
  | n + 1 => by rw [sumN, sumN, z3X, z6g b f n]
theorem z4o (c : E) (f : Nat → E) (n : Nat) : sumN (fun i => f i * c) n = sumN f n * c := by
  rw [mul_comm, ← z6l]
  exact z1D n (fun i _ => mul_comm _ _)
theorem z4p (f : Nat → Nat → E) (n : Nat) : ∀ m, sumN (fun i => sumN (fun j => f i j) m) n = sumN (fun j => sumN (fun i => f i j) n) m
  | 0 => z4q n
  | m + 1 => by
    rw [sumN, ← z4p f n m, ← z3e]
    exact z1D n (fun i _ => rfl)
theorem sumN_one (f : Nat → E) (n i : Nat) (hi : i < n) (h : ∀ j, j < n → j ≠ i → f j = 0) : sumN f n = f i := by
  induction n with
  | zero => omega
  | succ n ih =>
    rw [sumN]
    by_cases c : i = n
    · subst c
      have : sumN f i = 0 := by
        rw [z1D (g := fun _ => 0) i (fun j hj => h j (by omega) (by omega))]; exact z4q i
      rw [this, zero_add]
    · rw [ih (by omega) (fun j hj hne => h j (by omega) hne), h n (by omega) (fun e => c e.symm), add_zero]
theorem z5f {n : Nat} (hn : n < 128) : val (bitE n) = 2 ^ n := by
  unfold bitE
  exact z2c 7 _ (by rw [z5O]; exact Nat.pow_lt_pow_right (by decide) hn)
theorem val_pick (b : Bool) (x : E) : val (pick b x) = if b then val x else 0 := by
  cases b
  · rw [z1f, z1E]; rfl
  · rw [z1x]; rfl
/-- An element is the sum of its bits. -/
theorem z4P (x : E) : ∀ n, n ≤ 128 → val (sumN (fun u => pick (hasB x u) (bitE u)) n) = val x % 2 ^ n
  | 0, _ => by rw [sumN, z1E, Nat.pow_zero, Nat.mod_one]
  | n + 1, h => by
    rw [sumN, z1M, z4P x n (by omega), val_pick, z5f (by omega)]
    apply Nat.eq_of_testBit_eq
    intro j
    rw [Nat.testBit_xor, Nat.testBit_mod_two_pow, Nat.testBit_mod_two_pow]
    show _ = _
    unfold hasB
    generalize val x = v
    by_cases c : j = n
    · subst c
      cases hb : v.testBit j with
      | true => rw [if_pos rfl, Nat.testBit_two_pow_self]; simp
      | false => rw [if_neg Bool.false_ne_true, Nat.zero_testBit]; simp
    · have h2 : (if v.testBit n then 2 ^ n else 0 : Nat).testBit j = false := by
        cases v.testBit n with
        | true => rw [if_pos rfl, Nat.testBit_two_pow]; simp; omega
        | false => rw [if_neg Bool.false_ne_true, Nat.zero_testBit]
      rw [h2, Bool.xor_false]
      have : decide (j < n + 1) = decide (j < n) := by rw [decide_eq_decide]; omega
      rw [this]
theorem expand {l : Nat} (hl : l ≤ 7) {x : E} (hx : InL l x) : sumN (fun u => pick (hasB x u) (bitE u)) (2 ^ l) = x := by
  apply z2S
  rw [z4P x (2 ^ l) (w128 hl)]
  exact Nat.mod_eq_of_lt hx
theorem z6Y {l u : Nat} (hl : l ≤ 7) (hu : u < 2 ^ l) : InL l (bitE u) := by
  unfold InL Q
  rw [z5f (Nat.lt_of_lt_of_le hu (w128 hl))]
  exact Nat.pow_lt_pow_right (by decide) hu
theorem bitE_zero : bitE 0 = 1 := by
  apply z2S; rw [z5f (by decide), z2T]
/-- The bits of a product are sums of those of the products of bits. -/
theorem has_mul {l : Nat} (hl : l ≤ 7) {x : E} (hx : InL l x) (a y : E) (k : Nat) : sumN (fun u => pick (hasB x u) (pick (hasB (bitE u * a) k) y)) (2 ^ l) = pick (hasB (x * a) k) y := by
  have h1 : x * a = sumN (fun u => pick (hasB x u) (bitE u * a)) (2 ^ l) := by
    conv => lhs; rw [← expand hl hx]
    rw [← z4o]
    exact z1D _ (fun u _ => (z5b _ _ _).symm)
  rw [h1, z3u]
  exact z1D _ (fun u _ => (z4y _ _ _ _).symm)
/-- Part k of a tensor times an element on the left, its parts times another one. -/
def actT (n : Nat) (t : Nat → E) (a p : E) (k : Nat) : E := sumN (fun u => pick (hasB (bitE u * a) k) (t u * p)) n
theorem z6T {l : Nat} (hl : l ≤ 7) {x : E} (hx : InL l x) (y a p : E) (k : Nat) : actT (2 ^ l) (fun u => pick (hasB x u) y) a p k = pick (hasB (x * a) k) (y * p) := by
  unfold actT
  rw [← has_mul hl hx a (y * p) k]
  exact z1D _ (fun u _ => by rw [← z5b, z7w])
theorem actT_congr (n : Nat) {t s : Nat → E} (a p : E) (k : Nat) (h : ∀ u, u < n → t u = s u) : actT n t a p k = actT n s a p k := by
  unfold actT; exact z1D _ (fun u hu => by rw [h u hu])
theorem actT_sum (n m : Nat) (t : Nat → Nat → E) (a p : E) (k : Nat) : actT n (fun u => sumN (fun i => t i u) m) a p k = sumN (fun i => actT n (t i) a p k) m := by
  unfold actT
  rw [z4p (fun i u => pick (hasB (bitE u * a) k) (t i u * p)) m n]
  exact z1D _ (fun u _ => by rw [← z4o, z6g])
theorem actT_add (n : Nat) (t s : Nat → E) (a p : E) (k : Nat) : actT n (fun u => t u + s u) a p k = actT n t a p k + actT n s a p k := by
  unfold actT
  rw [← z3e]
  exact z1D _ (fun u _ => by rw [add_mul, z3X])
theorem pick_in {l : Nat} {x : E} (b : Bool) (h : InL l x) : InL l (pick b x) := by
  cases b
  · rw [z1f]; exact z54 l
  · rw [z1x]; exact h
theorem z7E {l : Nat} (f : Nat → E) : ∀ n, (∀ i, i < n → InL l (f i)) → InL l (sumN f n)
  | 0, _ => z54 l
  | n + 1, h => by rw [sumN]; exact z52 (z7E f n (fun i hi => h i (by omega))) (h n (by omega))
theorem actT_in {l : Nat} (hl : l ≤ 7) (n : Nat) (t : Nat → E) (a p : E) (k : Nat) (ht : ∀ u, u < n → InL l (t u)) (hp : InL l p) : InL l (actT n t a p k) :=
  z7E _ n (fun u hu => pick_in _ (z4a hl (ht u hu) hp))
/-- Weights, variable by variable from behind. -/
theorem z5J {l : Nat} (hl : l ≤ 7) : ∀ (P : List E) (i : Nat), (∀ p ∈ P, InL l p) → InL l (weight P i)
  | [], i, _ => z7c l
  | p :: ps, i, h => by
    have hp := h p List.mem_cons_self
    rw [weight]
    refine z4a hl ?_ (z5J hl ps (i / 2) (fun q hq => h q (List.mem_cons_of_mem _ hq)))
    split
    · exact hp
    · exact z52 (z7c l) hp
theorem z3m (p : E) : ∀ (P : List E) (i : Nat), weight (P ++ [p]) i = weight P i * (if i / 2 ^ P.length % 2 = 1 then p else 1 + p)
  | [], i => by
    show weight (p :: []) i = weight [] i * _
    rw [weight, weight, weight, mul_one, one_mul]
    simp
  | q :: Q, i => by
    show weight (q :: (Q ++ [p])) i = weight (q :: Q) i * _
    rw [weight, weight, z3m p Q (i / 2), mul_assoc, Nat.div_div_eq_div_mul, List.length_cons, Nat.pow_succ, Nat.mul_comm 2]
theorem z4u (b : Nat) : ∀ (P : List E) (i : Nat), i < 2 ^ P.length → weight P (2 ^ P.length * b + i) = weight P i
  | [], i, _ => rfl
  | q :: Q, i, h => by
    rw [List.length_cons, Nat.pow_succ] at h
    have e1 : (2 ^ (q :: Q).length * b + i) % 2 = i % 2 := by
      rw [List.length_cons, Nat.pow_succ, Nat.mul_comm (2 ^ Q.length) 2, Nat.mul_assoc]; omega
    have e2 : (2 ^ (q :: Q).length * b + i) / 2 = 2 ^ Q.length * b + i / 2 := by
      rw [List.length_cons, Nat.pow_succ, Nat.mul_comm (2 ^ Q.length) 2, Nat.mul_assoc]; omega
    rw [weight, weight, e1, e2, z4u b Q (i / 2) (by omega)]
theorem z4Q (p : E) (P : List E) (i : Nat) (h : i < 2 ^ P.length) : weight (P ++ [p]) i = weight P i * (1 + p) := by
  rw [z3m, Nat.div_eq_of_lt h]; rfl
theorem z5K (p : E) (P : List E) (i : Nat) (h : i < 2 ^ P.length) : weight (P ++ [p]) (2 ^ P.length + i) = weight P i * p := by
  have h0 := z4u 1 P i h
  rw [Nat.mul_one] at h0
  have e : (2 ^ P.length + i) / 2 ^ P.length % 2 = 1 := by
    rw [Nat.add_div_left _ (Nat.two_pow_pos _), Nat.div_eq_of_lt h]
  rw [z3m, h0, e]; rfl
/-- How alike two points are, part by part. -/
def alikeX (P R : List E) (k : Nat) : E := sumN (fun i => pick (hasB (weight P i) k) (weight R i)) (2 ^ P.length)
theorem alikeX_nil (k : Nat) : alikeX [] [] k = pick (hasB 1 k) 1 := by
  unfold alikeX
  show sumN _ 1 = _
  rw [sumN, sumN, zero_add]; rfl
theorem alikeX_snoc {l : Nat} (hl : l ≤ 7) (P R : List E) (p r : E) (hP : ∀ x ∈ P, InL l x) (hlen : P.length = R.length) (k : Nat) :
    alikeX (P ++ [p]) (R ++ [r]) k = alikeX P R k + actT (2 ^ l) (alikeX P R) p 1 k + alikeX P R k * r := by
  have e1 : actT (2 ^ l) (alikeX P R) p 1 k = sumN (fun i => pick (hasB (weight P i * p) k) (weight R i)) (2 ^ P.length) := by
    unfold alikeX
    rw [actT_sum]
    exact z1D _ (fun i _ => by rw [z6T hl (z5J hl P i hP), mul_one])
  have e2 : alikeX P R k * r = sumN (fun i => pick (hasB (weight P i) k) (weight R i * r)) (2 ^ P.length) := by
    unfold alikeX
    rw [← z4o]
    exact z1D _ (fun i _ => (z5b _ _ _).symm)
  rw [e1, e2]
  unfold alikeX
  rw [← z3e, ← z3e, List.length_append, List.length_singleton, Nat.pow_succ, Nat.mul_two, z4N, ← z3e]
  apply z1D
  intro i hi
  have hi' : i < 2 ^ R.length := by rw [← hlen]; exact hi
  rw [z4Q p P i hi, z5K p P i hi, z4Q r R i hi', show 2 ^ P.length + i = 2 ^ R.length + i by rw [hlen], z5K r R i hi']
  generalize weight P i = w
  generalize weight R i = v
  rw [mul_add, mul_add, mul_one, mul_one, z3t, z3X, z3X]
  generalize pick (hasB w k) v = a
  generalize pick (hasB (w * p) k) v = b
  generalize pick (hasB w k) (v * r) = c
  generalize pick (hasB (w * p) k) (v * r) = d
  have : a + c + (b + d) + d = a + b + c := by
    rw [add_assoc (a + c), add_assoc b d d, z2h, add_zero, add_assoc a c b, add_comm c b, ← add_assoc]
  exact this
end Go.Proofs.Ytkhmpaooinpfoaa.Sp
/- The program's sums of pairs: a tensor times an element on the left, parts by another one, added to one. Own text. -/
namespace Go.Proofs.Ytkhmpaooinpfoaa.Sp
open Go.RowKit Go.Proofs.YtkhmpaooinpfoaaW.PrintWords Go.Proofs.YtkhmpaooinpfoaaW.PrintMore Go.Proofs.Ytkhmpaooinpfoaa.P Go.Proofs.Ytkhmpaooinpfoaa.Ar Go.Proofs.Ytkhmpaooinpfoaa.Tw
set_option linter.unusedVariables false
/-- A list of so many elements. -/
def tabL (n : Nat) (f : Nat → E) : List E := (List.range n).map f
theorem z1k (n : Nat) (f : Nat → E) : (tabL n f).length = n := by simp [tabL]
theorem z2a (n : Nat) (f : Nat → E) (i : Nat) (h : i < n) : (tabL n f).getD i 0 = f i := z2P f 0 n i h
theorem z1v (n : Nat) {f g : Nat → E} (h : ∀ i, i < n → f i = g i) : tabL n f = tabL n g := by
  unfold tabL
  apply List.map_congr_left
  intro i hi
  exact h i (List.mem_range.1 hi)
theorem z7F (X : List E) : tabL X.length (fun i => X.getD i 0) = X := by
  apply z50 (z1k _ _)
  intro i hi
  rw [z1k] at hi
  exact z2a _ _ i hi
theorem z5e (n : Nat) (f g : Nat → E) (i : Nat) (hi : i < n) (hg : ∀ k, k < n → k ≠ i → g k = f k) : (tabL n f).set i (g i) = tabL n g := by
  apply z50
  · rw [List.length_set, z1k, z1k]
  · intro k hk
    rw [List.length_set, z1k] at hk
    rw [z2a n g k hk]
    by_cases c : i = k
    · subst c
      exact z51 (by rw [z1k]; exact hi) _
    · rw [getD_set_ne c, z2a n f k hk, hg k hk (fun e => c e.symm)]
theorem z3i (n : Nat) : List.replicate n (0 : E) = tabL n (fun _ => 0) := by
  apply z50
  · rw [List.length_replicate, z1k]
  · intro i hi
    rw [List.length_replicate] at hi
    rw [z2a n _ i hi, List.getD_eq_getElem?_getD, List.getElem?_replicate, if_pos hi]; rfl
theorem tabL_all {l : Nat} (hl : l ≤ 7) (n : Nat) (f : Nat → E) (h : ∀ i, i < n → InL l (f i)) : AllS (l : Int) (tabL n f) := by
  intro x hx
  unfold tabL at hx
  obtain ⟨i, hi, rfl⟩ := List.mem_map.1 hx
  exact ⟨by omega, by omega, by rw [Int.toNat_natCast]; exact h i (List.mem_range.1 hi)⟩
theorem ofS_of {l : Nat} (hl : l ≤ 7) {x : E} (h : InL l x) : OfS (l : Int) x := ⟨by omega, by omega, by rw [Int.toNat_natCast]; exact h⟩
theorem inL_of {l : Nat} {x : E} (h : OfS (l : Int) x) : InL l x := by have := h.2.2; rwa [Int.toNat_natCast] at this
/-- One product's bits, each with y, added to what there is. -/
def bitAdd (f : Nat → E) (z y : E) (i k : Nat) : E := f k + pick (decide (k < i) && hasB z k) y
theorem z48 (f : Nat → E) (z y : E) (k : Nat) : bitAdd f z y 0 k = f k := by
  unfold bitAdd
  rw [decide_eq_false (Nat.not_lt_zero k), Bool.false_and, z1f, add_zero]
theorem z3o (f : Nat → E) (z y : E) (i : Nat) : bitAdd f z y i i = f i := by
  unfold bitAdd
  rw [decide_eq_false (Nat.lt_irrefl i), Bool.false_and, z1f, add_zero]
theorem z2O (f : Nat → E) (z y : E) (i k : Nat) (h : k ≠ i) : bitAdd f z y (i + 1) k = bitAdd f z y i k := by
  unfold bitAdd
  have : decide (k < i + 1) = decide (k < i) := by rw [decide_eq_decide]; omega
  rw [this]
theorem z3b (f : Nat → E) (z y : E) (i : Nat) : bitAdd f z y (i + 1) i = f i + pick (hasB z i) y := by
  unfold bitAdd
  rw [decide_eq_true (Nat.lt_succ_self i), Bool.true_and]
theorem z4H (f : Nat → E) (z y : E) (n k : Nat) (h : k < n) : bitAdd f z y n k = f k + pick (hasB z k) y := by
  unfold bitAdd
  rw [decide_eq_true h, Bool.true_and]
theorem z74 {l : Nat} (hl : l ≤ 7) (f : Nat → E) (z y a p : E) (TS : List S30) (m u : Int) {R : List S30}
    (h : Ev (fun q => zq.l0 q (l : Int) ((tabL (2 ^ l) (fun k => f k + pick (hasB z k) y)).map toS) TS m (wrap64 (u + 1)) (hi a) (lo a) (hi p) (lo p)) R) :
    ∀ (d i : Nat), i + d = 2 ^ l → Ev (fun q => zq.l1 q (l : Int) ((tabL (2 ^ l) (bitAdd f z y i)).map toS) TS m u (bitsL z (2 ^ l)) ((2 ^ l : Nat) : Int) (i : Int) (hi a) (lo a) (hi p) (lo p) (hi y) (lo y)) R := by
  have h128 := w128 hl
  have hlb : (bitsL z (2 ^ l)).length = 2 ^ l := by unfold bitsL; simp
  intro d
  induction d with
  | zero =>
    intro i hid
    have : i = 2 ^ l := by omega
    subst this
    refine Ev.step (fun q => by rw [zq.l1]) (Ev.neg (Int.lt_irrefl _) ?_)
    rw [z1v _ (fun k hk => z4H f z y (2 ^ l) k hk)]
    exact h
  | succ d ih =>
    intro i hid
    have hi' : i < 2 ^ l := by omega
    have hih := ih (i + 1) (by omega)
    have hb : rdOf false (bitsL z (2 ^ l)) (i : Int) = hasB z i := by rw [z7A]; exact z2P _ false _ i hi'
    have hg : (tabL (2 ^ l) (bitAdd f z y i)).getD i 0 = f i := by rw [z2a _ _ i hi', z3o]
    have c3 : (i : Int) < (((tabL (2 ^ l) (bitAdd f z y i)).map toS).length : Int) := by rw [List.length_map, z1k]; omega
    refine Ev.step (fun q => by rw [zq.l1]) (Ev.pos (by omega) (Ev.pos (Int.natCast_nonneg _) (Ev.pos (by rw [hlb]; omega) ?_)))
    simp only [hb, z1C hi' (show 2 ^ l ≤ 4611686018427387904 by omega)]
    cases c : hasB z i with
    | true =>
      refine Ev.pos rfl (Ev.pos c3 ?_)
      simp only [rdS, hg, z3K, z3L]
      refine Ev.bnd0 (z6F _ _) ?_
      have e : ((tabL (2 ^ l) (bitAdd f z y i)).map toS).set (i : Int).toNat (⟨hi (f i + y), lo (f i + y)⟩ : S30) = (tabL (2 ^ l) (bitAdd f z y (i + 1))).map toS := by
        rw [Int.toNat_natCast, z7G, map_set]
        have hn := z3b f z y i
        rw [c, z1x] at hn
        rw [← hn, z5e _ _ _ i hi' (fun k _ hne => z2O f z y i k hne)]
      rw [e]; exact hih
    | false =>
      refine Ev.neg Bool.false_ne_true ?_
      have e : tabL (2 ^ l) (bitAdd f z y (i + 1)) = tabL (2 ^ l) (bitAdd f z y i) := by
        apply z1v
        intro k _
        by_cases ck : k = i
        · subst ck; rw [z3b, c, z1f, add_zero, z3o]
        · exact z2O f z y i k ck
      rw [← e]; exact hih
theorem z73 {l : Nat} (hl : l ≤ 7) (T : List E) (a p : E) (hT : AllS (l : Int) T) (hTl : T.length ≤ 2 ^ l) (ha : InL l a) (hp : InL l p) (f : Nat → E) :
    ∀ (d u : Nat), u + d = T.length → Ev (fun q => zq.l0 q (l : Int) ((tabL (2 ^ l) (fun k => f k + actT u (fun i => T.getD i 0) a p k)).map toS) (T.map toS) (T.length : Int) (u : Int) (hi a) (lo a) (hi p) (lo p))
      ((tabL (2 ^ l) (fun k => f k + actT T.length (fun i => T.getD i 0) a p k)).map toS) := by
  have h128 := w128 hl
  intro d
  induction d with
  | zero =>
    intro u hu
    have : u = T.length := by omega
    subst this
    exact Ev.step (fun q => by rw [zq.l0]) (Ev.neg (Int.lt_irrefl _) (Ev.ret _))
  | succ d ih =>
    intro u hu
    have hu' : u < T.length := by omega
    have hih := ih (u + 1) (by omega)
    have hw := z1C hu' (show T.length ≤ 4611686018427387904 by omega)
    have hs : ∀ k, actT (u + 1) (fun i => T.getD i 0) a p k = actT u (fun i => T.getD i 0) a p k + pick (hasB (bitE u * a) k) (T.getD u 0 * p) := fun k => by
      unfold actT; rw [sumN]
    have hf : (fun k => f k + actT (u + 1) (fun i => T.getD i 0) a p k) = fun k => (f k + actT u (fun i => T.getD i 0) a p k) + pick (hasB (bitE u * a) k) (T.getD u 0 * p) := by
      funext k; rw [hs, add_assoc]
    rw [hf] at hih
    refine Ev.step (fun q => by rw [zq.l0]) (Ev.pos (by omega) (Ev.pos (Int.natCast_nonneg _) (Ev.pos (by rw [List.length_map]; omega) ?_)))
    simp only [rdS, z3K, z3L]
    refine Ev.bnd (Mul_ev hl (z2Z hT u) hp) ?_
    simp only [z79]
    by_cases c : T.getD u 0 * p = 0
    · refine Ev.pos (decide_eq_true c) ?_
      rw [hw]
      have e : (fun k => (f k + actT u (fun i => T.getD i 0) a p k) + pick (hasB (bitE u * a) k) (T.getD u 0 * p)) = fun k => f k + actT u (fun i => T.getD i 0) a p k := by
        funext k; rw [c, z36, add_zero]
      rw [e] at hih
      exact hih
    · refine Ev.neg (by rw [decide_eq_false c]; exact Bool.false_ne_true) ?_
      refine Ev.bnd (z2r u (by omega)) ?_
      have hbe := z6Y hl (show u < 2 ^ l by omega)
      refine Ev.bnd (Mul_ev hl hbe ha) ?_
      refine Ev.bnd (z3M hl (bitE u * a) (ofS_of hl (z4a hl hbe ha))) ?_
      have hlb : (bitsL (bitE u * a) (2 ^ l)).length = 2 ^ l := by unfold bitsL; simp
      rw [hlb]
      have e0 : tabL (2 ^ l) (fun k => f k + actT u (fun i => T.getD i 0) a p k) = tabL (2 ^ l) (bitAdd (fun k => f k + actT u (fun i => T.getD i 0) a p k) (bitE u * a) (T.getD u 0 * p) 0) :=
        z1v _ (fun k _ => (z48 (fun k => f k + actT u (fun i => T.getD i 0) a p k) (bitE u * a) (T.getD u 0 * p) k).symm)
      rw [e0]
      refine z74 hl (fun k => f k + actT u (fun i => T.getD i 0) a p k) (bitE u * a) (T.getD u 0 * p) a p _ _ _ ?_ (2 ^ l) 0 (Nat.zero_add _)
      rw [hw]
      exact hih
theorem z72 {l : Nat} (hl : l ≤ 7) (f : Nat → E) (T : List E) (a p : E) (hT : AllS (l : Int) T) (hTl : T.length ≤ 2 ^ l) (ha : InL l a) (hp : InL l p) :
    Ev (fun q => zq.f q (l : Int) ((tabL (2 ^ l) f).map toS) (T.map toS) (hi a) (lo a) (hi p) (lo p)) ((tabL (2 ^ l) (fun k => f k + actT T.length (fun i => T.getD i 0) a p k)).map toS) := by
  unfold zq.f
  rw [List.length_map]
  have := z73 hl T a p hT hTl ha hp f T.length 0 (Nat.zero_add _)
  have e : tabL (2 ^ l) (fun k => f k + actT 0 (fun i => T.getD i 0) a p k) = tabL (2 ^ l) f := z1v _ (fun k _ => by
    show f k + sumN _ 0 = f k
    rw [sumN, add_zero])
  rw [e] at this
  exact this
end Go.Proofs.Ytkhmpaooinpfoaa.Sp
/- What hinders tensors and elements. Own text. -/
namespace Go.Proofs.Ytkhmpaooinpfoaa.Sp
open Go.RowKit Go.Proofs.YtkhmpaooinpfoaaW.PrintWords Go.Proofs.YtkhmpaooinpfoaaW.PrintMore Go.Proofs.Ytkhmpaooinpfoaa.P Go.Proofs.Ytkhmpaooinpfoaa.Ar Go.Proofs.Ytkhmpaooinpfoaa.Tw
set_option linter.unusedVariables false
theorem z5a (L : Int) : ∀ (X : List E), Ev (fun k => zv.all k L (X.map toS)) (decide (AllS L X))
  | [] => by refine Ev.ret' ?_; symm; rw [decide_eq_true_eq]; intro x hx; cases hx
  | x :: xs => by
    show Ev (fun k => (zM.f k L (toS x).f0 (toS x).f1).bind fun b => if b = true then zv.all k L (xs.map toS) else some false) _
    refine Ev.bnd (z5v L x) ?_
    have hd : AllS L (x :: xs) ↔ OfS L x ∧ AllS L xs := List.forall_mem_cons
    by_cases c : OfS L x
    · refine Ev.pos (decide_eq_true c) ((z5a L xs).eqn ?_)
      rw [decide_eq_decide, hd]; exact ⟨fun h => ⟨c, h⟩, fun h => h.2⟩
    · refine Ev.neg (by simpa using c) (Ev.ret' ?_)
      symm; rw [decide_eq_false_iff_not, hd]; exact fun h => c h.1
/-- All of all tensors are of the level. -/
def AllT (L : Int) (Ts : List (List E)) : Prop := ∀ t ∈ Ts, AllS L t
instance (L : Int) (Ts : List (List E)) : Decidable (AllT L Ts) := by unfold AllT; infer_instance
def LenT (s : Int) (Ts : List (List E)) : Prop := ∀ t ∈ Ts, (t.length : Int) = s
instance (s : Int) (Ts : List (List E)) : Decidable (LenT s Ts) := by unfold LenT; infer_instance
def rowsS (Ts : List (List E)) : List (List S30) := Ts.map fun t => t.map toS
theorem z5y (L : Int) : ∀ (Ts : List (List E)), Ev (fun k => zv.alls k L (rowsS Ts)) (decide (AllT L Ts))
  | [] => by refine Ev.ret' ?_; symm; rw [decide_eq_true_eq]; intro x hx; cases hx
  | x :: xs => by
    show Ev (fun k => (zv.all k L (x.map toS)).bind fun b => if b = true then zv.alls k L (rowsS xs) else some false) _
    refine Ev.bnd (z5a L x) ?_
    have hd : AllT L (x :: xs) ↔ AllS L x ∧ AllT L xs := List.forall_mem_cons
    by_cases c : AllS L x
    · refine Ev.pos (decide_eq_true c) ((z5y L xs).eqn ?_)
      rw [decide_eq_decide, hd]; exact ⟨fun h => ⟨c, h⟩, fun h => h.2⟩
    · refine Ev.neg (by simpa using c) (Ev.ret' ?_)
      symm; rw [decide_eq_false_iff_not, hd]; exact fun h => c h.1
theorem z7v (s : Int) (Ts : List (List E)) : zv.lens s (rowsS Ts) = decide (LenT s Ts) := by
  unfold zv.lens rowsS
  rw [Bool.eq_iff_iff, List.all_eq_true, decide_eq_true_eq]
  constructor
  · intro h t ht
    have := h (t.map toS) (List.mem_map.2 ⟨t, ht, rfl⟩)
    rw [List.length_map, beq_iff_eq] at this
    exact this
  · intro h x hx
    obtain ⟨t, ht, rfl⟩ := List.mem_map.1 hx
    rw [List.length_map, beq_iff_eq]
    exact h t ht
def paskE (L : Int) (Ts : List (List E)) (M : List E) : Int := if LvS L then (if LenT ((2 ^ L.toNat : Nat) : Int) Ts then (if AllT L Ts ∧ AllS L M then 0 else 5) else 6) else 1
theorem z5T (L : Int) (Ts : List (List E)) (M : List E) : Ev (fun k => zv.f k L (rowsS Ts) (M.map toS)) (paskE L Ts M) := by
  unfold zv.f
  by_cases hL : LvS L
  rotate_left
  · have e : paskE L Ts M = 1 := if_neg hL
    rw [e]
    exact Ev.bnd (size_out hL) (Ev.pos rfl (Ev.ret _))
  obtain ⟨l, rfl⟩ := Int.eq_ofNat_of_zero_le hL.1
  have hl : l ≤ 7 := by have := hL.2; omega
  have h0 := Nat.two_pow_pos l
  have e : paskE (l : Int) Ts M = if LenT ((2 ^ l : Nat) : Int) Ts then (if AllT (l : Int) Ts ∧ AllS (l : Int) M then 0 else 5) else 6 := by
    unfold paskE; rw [if_pos hL, Int.toNat_natCast]
  rw [e]
  refine Ev.bnd (z4l hl) (Ev.neg (by omega) ?_)
  rw [z7v]
  by_cases c : LenT ((2 ^ l : Nat) : Int) Ts
  rotate_left
  · rw [if_neg c]
    exact Ev.pos (decide_eq_false c) (Ev.ret _)
  rw [if_pos c]
  refine Ev.neg (by rw [decide_eq_true c]; exact Bool.noConfusion) (Ev.bnd (z5y (l : Int) Ts) ?_)
  by_cases ct : AllT (l : Int) Ts
  rotate_left
  · rw [if_neg (fun h => ct h.1)]
    exact Ev.pos (decide_eq_false ct) (Ev.ret _)
  refine Ev.neg (by rw [decide_eq_true ct]; exact Bool.noConfusion) (Ev.bnd (z5a (l : Int) M) (Ev.ret' ?_))
  by_cases cm : AllS (l : Int) M
  · rw [if_pos (decide_eq_true cm), if_pos ⟨ct, cm⟩]
  · rw [decide_eq_false cm, if_neg Bool.false_ne_true, if_neg (fun h => cm h.2)]
end Go.Proofs.Ytkhmpaooinpfoaa.Sp
/- Elements as rows of bits: the leading bit, whether bits stand below n, bits turned about. Own text. -/
namespace Go.Proofs.Ytkhmpaooinpfoaa.Sp
open Go.RowKit Go.Proofs.YtkhmpaooinpfoaaW.PrintWords Go.Proofs.YtkhmpaooinpfoaaW.PrintMore Go.Proofs.Ytkhmpaooinpfoaa.P Go.Proofs.Ytkhmpaooinpfoaa.Ar Go.Proofs.Ytkhmpaooinpfoaa.Tw
set_option linter.unusedVariables false
/-- How many bits a number has. -/
def blen (n : Nat) : Nat := if n = 0 then 0 else Nat.log2 n + 1
theorem z3l (n k : Nat) : blen n ≤ k ↔ n < 2 ^ k := by
  unfold blen
  by_cases h : n = 0
  · rw [if_pos h, h]
    exact ⟨fun _ => Nat.two_pow_pos k, fun _ => Nat.zero_le _⟩
  · rw [if_neg h, ← Nat.log2_lt h]
    exact ⟨fun h => h, fun h => h⟩
theorem z2K (n s : Nat) (h : 2 ^ s ≤ n) : blen n = blen (n / 2 ^ s) + s := by
  have key : ∀ k, blen n ≤ k + s ↔ blen (n / 2 ^ s) ≤ k := by
    intro k
    rw [z3l, z3l, Nat.div_lt_iff_lt_mul (Nat.two_pow_pos s), ← Nat.pow_add]
  have hs : s ≤ blen n := by
    apply Classical.byContradiction
    intro g
    have := (z3l n s).1 (by omega)
    omega
  have h1 := (key (blen (n / 2 ^ s))).2 (Nat.le_refl _)
  have h2 := (key (blen n - s)).1 (by omega)
  omega
def len8 : ByteArray := ⟨#[0, 1, 2, 2, 3, 3, 3, 3, 4, 4, 4, 4, 4, 4, 4, 4, 5, 5, 5, 5, 5, 5, 5, 5, 5, 5, 5, 5, 5, 5, 5, 5, 6, 6, 6, 6, 6, 6, 6, 6, 6, 6, 6, 6, 6, 6, 6, 6, 6, 6, 6, 6, 6, 6, 6, 6, 6, 6, 6, 6, 6, 6, 6, 6, 7, 7, 7, 7, 7, 7, 7, 7, 7, 7, 7, 7, 7, 7, 7, 7, 7, 7, 7, 7, 7, 7, 7, 7, 7, 7, 7, 7, 7, 7, 7, 7, 7, 7, 7, 7, 7, 7, 7, 7, 7, 7, 7, 7, 7, 7, 7, 7, 7, 7, 7, 7, 7, 7, 7, 7, 7, 7, 7, 7, 7, 7, 7, 7, 8, 8, 8, 8, 8, 8, 8, 8, 8, 8, 8, 8, 8, 8, 8, 8, 8, 8, 8, 8, 8, 8, 8, 8, 8, 8, 8, 8, 8, 8, 8, 8, 8, 8, 8, 8, 8, 8, 8, 8, 8, 8, 8, 8, 8, 8, 8, 8, 8, 8, 8, 8, 8, 8, 8, 8, 8, 8, 8, 8, 8, 8, 8, 8, 8, 8, 8, 8, 8, 8, 8, 8, 8, 8, 8, 8, 8, 8, 8, 8, 8, 8, 8, 8, 8, 8, 8, 8, 8, 8, 8, 8, 8, 8, 8, 8, 8, 8, 8, 8, 8, 8, 8, 8, 8, 8, 8, 8, 8, 8, 8, 8, 8, 8, 8, 8, 8, 8, 8, 8, 8, 8, 8, 8, 8, 8, 8, 8]⟩
theorem len8_eq : ∀ b : Nat, b < 256 → bt len8 (b : Int) = ((blen b : Nat) : Int) := by decide +kernel
theorem len_j0 (n : Nat) (hn : n < 2 ^ 32) (x : Nat) (hx : x ≤ 1000) : Ev (fun k => z18.j0 k (n : Int) (x : Int)) ((x + blen n : Nat) : Int) := by
  have fin : ∀ (m y : Nat), m < 256 → y ≤ 2000 → wrap64 ((y : Int) + wrap64 (bt len8 (m : Int))) = ((y + blen m : Nat) : Int) := by
    intro m y hm hy
    have hb : blen m ≤ 8 := (z3l m 8).2 hm
    rw [len8_eq m hm, z27 (x := ((blen m : Nat) : Int)) (by omega) (by omega)]
    exact w64_add (by omega) (by omega)
  have e16 : wrap64 ((x : Int) + 16) = ((x + 16 : Nat) : Int) := by rw [z27 (by omega) (by omega)]; omega
  have e8 : wrap64 ((x : Int) + 8) = ((x + 8 : Nat) : Int) := by rw [z27 (by omega) (by omega)]; omega
  have e24 : wrap64 ((((x + 16 : Nat) : Int)) + 8) = ((x + 24 : Nat) : Int) := by rw [z27 (by omega) (by omega)]; omega
  refine Ev.step (fun k => by rw [z18.j0]) ?_
  by_cases c1 : (n : Int) ≥ 65536
  · refine Ev.pos c1 ?_
    have hb := z2K n 16 (by omega)
    have q1 : (n : Int) / 65536 = ((n / 2 ^ 16 : Nat) : Int) := by omega
    rw [q1, e16, e24]
    generalize hq : n / 2 ^ 16 = q at hb
    have hq16 : q < 65536 := by omega
    by_cases c2 : (q : Int) ≥ 256
    · refine Ev.pos c2 ?_
      have hb2 := z2K q 8 (by omega)
      have q2 : ((q : Int) / 256) % 256 = ((q / 2 ^ 8 : Nat) : Int) := by omega
      rw [q2]
      refine Ev.pos (Int.natCast_nonneg _) (Ev.pos (by omega) (Ev.ret' ?_))
      have := fin (q / 2 ^ 8) (x + 24) (by omega) (by omega)
      refine this.trans ?_
      omega
    · refine Ev.neg c2 ?_
      have q2 : (q : Int) % 256 = (q : Int) := by omega
      rw [q2]
      refine Ev.pos (Int.natCast_nonneg _) (Ev.pos (by omega) (Ev.ret' ?_))
      have := fin q (x + 16) (by omega) (by omega)
      refine this.trans ?_
      omega
  · refine Ev.neg c1 ?_
    by_cases c2 : (n : Int) ≥ 256
    · refine Ev.pos c2 ?_
      have hb2 := z2K n 8 (by omega)
      have q2 : ((n : Int) / 256) % 256 = ((n / 2 ^ 8 : Nat) : Int) := by omega
      rw [q2, e8]
      refine Ev.pos (Int.natCast_nonneg _) (Ev.pos (by omega) (Ev.ret' ?_))
      have := fin (n / 2 ^ 8) (x + 8) (by omega) (by omega)
      refine this.trans ?_
      omega
    · refine Ev.neg c2 ?_
      have q2 : (n : Int) % 256 = (n : Int) := by omega
      rw [q2]
      refine Ev.pos (Int.natCast_nonneg _) (Ev.pos (by omega) (Ev.ret' ?_))
      exact fin n x (by omega) (by omega)
theorem z60 (n : Nat) (hn : n < 2 ^ 64) : Ev (fun k => z18.f k (n : Int)) ((blen n : Nat) : Int) := by
  unfold z18.f
  by_cases c : (n : Int) ≥ 4294967296
  · refine Ev.pos c ?_
    have q1 : (n : Int) / 4294967296 = ((n / 2 ^ 32 : Nat) : Int) := by omega
    have hb := z2K n 32 (by omega)
    rw [q1, hb, Nat.add_comm]
    exact len_j0 (n / 2 ^ 32) (by omega) 32 (by decide)
  · refine Ev.neg c ?_
    have := len_j0 n (by omega) 0 (by decide)
    rw [Nat.zero_add] at this
    exact this
/-- The leading bit. -/
theorem lead_ev (x : E) : Ev (fun k => z20.f k (hi x) (lo x)) (((blen (val x) : Nat) : Int) - 1) := by
  have h1 := hi_bd x
  have h2 := z6u x
  have hv := z4r x
  unfold z20.f
  obtain ⟨h, hh⟩ := Int.eq_ofNat_of_zero_le h1.1
  obtain ⟨l, hl⟩ := Int.eq_ofNat_of_zero_le h2.1
  rw [hh] at h1 hv ⊢
  rw [hl] at h2 hv ⊢
  rw [Int.toNat_natCast, Int.toNat_natCast] at hv
  by_cases c : (h : Int) = 0
  · refine Ev.pos c (Ev.bnd (z60 l (by omega)) (Ev.ret' ?_))
    have : val x = l := by omega
    rw [this]
    have hb : blen l ≤ 64 := (z3l l 64).2 (by omega)
    exact z27 (by omega) (by omega)
  · refine Ev.neg c (Ev.bnd (z60 h (by omega)) (Ev.ret' ?_))
    have hb : blen h ≤ 64 := (z3l h 64).2 (by omega)
    have hs := z2K (val x) 64 (by omega)
    have hd : val x / 2 ^ 64 = h := by omega
    rw [hd] at hs
    rw [hs, z27 (by omega) (by omega)]
    omega
/-- Do all elements have bits below n alone? -/
def InN (n : Nat) (X : List E) : Prop := ∀ x ∈ X, val x < 2 ^ n
instance (n : Nat) (X : List E) : Decidable (InN n X) := by unfold InN; infer_instance
theorem z5L (n : Nat) (hn : n ≤ 1000000) : ∀ (X : List E), Ev (fun k => zE.f k (X.map toS) (n : Int)) (decide (InN n X))
  | [] => by refine Ev.ret' ?_; symm; rw [decide_eq_true_eq]; intro x hx; cases hx
  | x :: xs => by
    show Ev (fun k => (zE.q.f k (n : Int) (toS x).f0 (toS x).f1).bind fun b => if b = true then zE.all k (n : Int) (xs.map toS) else some false) _
    have hq : Ev (fun k => zE.q.f k (n : Int) (hi x) (lo x)) (decide (val x < 2 ^ n)) := by
      unfold zE.q.f
      refine Ev.bnd (lead_ev x) (Ev.ret' ?_)
      have := z3l (val x) n
      by_cases c : val x < 2 ^ n
      · have h2 := this.2 c
        rw [decide_eq_true c, decide_eq_false (show ¬ (((blen (val x) : Nat) : Int) - 1 ≥ (n : Int)) by omega)]; rfl
      · have h2 : ¬ blen (val x) ≤ n := fun h => c (this.1 h)
        rw [decide_eq_false c, decide_eq_true (show ((blen (val x) : Nat) : Int) - 1 ≥ (n : Int) by omega)]; rfl
    refine Ev.bnd hq ?_
    have hd : InN n (x :: xs) ↔ val x < 2 ^ n ∧ InN n xs := List.forall_mem_cons
    by_cases c : val x < 2 ^ n
    · refine Ev.pos (decide_eq_true c) ((z5L n hn xs).eqn ?_)
      rw [decide_eq_decide, hd]; exact ⟨fun h => ⟨c, h⟩, fun h => h.2⟩
    · refine Ev.neg (by simpa using c) (Ev.ret' ?_)
      symm; rw [decide_eq_false_iff_not, hd]; exact fun h => c h.1
theorem z6D (x : E) (n : Nat) (hn : n < 128) : Ev (fun k => z1H.f k (hi x) (lo x) (n : Int)) (hasB x n) := by
  unfold z1H.f
  exact Ev.bnd (z2r n hn) (Ev.ret' (hasBits x n hn))
/-- Bits turned about, as far as one has come. -/
def turnN (X : List E) (m j : Nat) : E := sumN (fun i => pick (hasB (X.getD i 0) j) (bitE i)) m
def turnL (X : List E) (n : Nat) : List E := tabL n (turnN X X.length)
theorem turn_l1 (n : Nat) (hn : n ≤ 128) (f : Nat → E) (z : E) (i : Nat) (hi128 : i < 128) (XS : List S30) (m : Int) {R : List S30 × Int}
    (h : Ev (fun k => zy.l0 k (n : Int) ((tabL n (fun q => f q + pick (hasB z q) (bitE i))).map toS) XS m (wrap64 ((i : Int) + 1))) R) :
    ∀ (d j : Nat), j + d = n → Ev (fun k => zy.l1 k (n : Int) ((tabL n (bitAdd f z (bitE i) j)).map toS) (i : Int) XS m (i : Int) (n : Int) (j : Int) (hi z) (lo z)) R := by
  intro d
  induction d with
  | zero =>
    intro j hj
    have : j = n := by omega
    subst this
    refine Ev.step (fun k => by rw [zy.l1]) (Ev.neg (Int.lt_irrefl _) ?_)
    rw [z1v _ (fun q hq => z4H f z (bitE i) j q hq)]
    exact h
  | succ d ih =>
    intro j hj
    have hj' : j < n := by omega
    have hih := ih (j + 1) (by omega)
    have hg : (tabL n (bitAdd f z (bitE i) j)).getD j 0 = f j := by rw [z2a _ _ j hj', z3o]
    have c3 : (j : Int) < (((tabL n (bitAdd f z (bitE i) j)).map toS).length : Int) := by rw [List.length_map, z1k]; omega
    refine Ev.step (fun k => by rw [zy.l1]) (Ev.pos (by omega) (Ev.bnd (z6D z j (by omega)) ?_))
    cases c : hasB z j with
    | true =>
      refine Ev.pos rfl (Ev.pos (Int.natCast_nonneg _) (Ev.pos c3 (Ev.bnd (z2r i hi128) ?_)))
      simp only [rdS, hg, z3K, z3L]
      refine Ev.bnd0 (z6F _ _) ?_
      have e : ((tabL n (bitAdd f z (bitE i) j)).map toS).set (j : Int).toNat (⟨hi (f j + bitE i), lo (f j + bitE i)⟩ : S30) = (tabL n (bitAdd f z (bitE i) (j + 1))).map toS := by
        rw [Int.toNat_natCast, z7G, map_set]
        have hn2 := z3b f z (bitE i) j
        rw [c, z1x] at hn2
        rw [← hn2, z5e _ _ _ j hj' (fun q _ hne => z2O f z (bitE i) j q hne)]
      simp only [e, z1C hj' (show n ≤ 4611686018427387904 by omega)]
      exact hih
    | false =>
      refine Ev.neg Bool.false_ne_true ?_
      have e : tabL n (bitAdd f z (bitE i) (j + 1)) = tabL n (bitAdd f z (bitE i) j) := by
        apply z1v
        intro q _
        by_cases cq : q = j
        · subst cq; rw [z3b, c, z1f, add_zero, z3o]
        · exact z2O f z (bitE i) j q cq
      rw [z1C hj' (by omega), ← e]; exact hih
theorem turn_l0 (X : List E) (hX : X.length ≤ 128) (n : Nat) (hn : n ≤ 128) : ∀ (d i : Nat), i + d = X.length →
    Ev (fun k => zy.l0 k (n : Int) ((tabL n (turnN X i)).map toS) (X.map toS) (X.length : Int) (i : Int)) ((turnL X n).map toS, 0) := by
  intro d
  induction d with
  | zero =>
    intro i hid
    have : i = X.length := by omega
    subst this
    refine Ev.step (fun k => by rw [zy.l0]) ?_
    exact Ev.neg (Int.lt_irrefl _) (Ev.ret _)
  | succ d ih =>
    intro i hid
    have hi' : i < X.length := by omega
    have hih := ih (i + 1) (by omega)
    have c3 : (i : Int) < ((X.map toS).length : Int) := by rw [List.length_map]; omega
    refine Ev.step (fun k => by rw [zy.l0]) (Ev.pos (by omega) (Ev.pos (Int.natCast_nonneg _) (Ev.pos c3 ?_)))
    simp only [rdS, z3K, z3L]
    have e0 : tabL n (turnN X i) = tabL n (bitAdd (turnN X i) (X.getD i 0) (bitE i) 0) := z1v _ (fun q _ => (z48 _ _ _ q).symm)
    rw [e0]
    refine turn_l1 n hn (turnN X i) (X.getD i 0) i (by omega) _ _ ?_ n 0 (Nat.zero_add _)
    rw [z1C hi' (by omega)]
    have e1 : tabL n (fun q => turnN X i q + pick (hasB (X.getD i 0) q) (bitE i)) = tabL n (turnN X (i + 1)) := z1v _ (fun q _ => by
      show _ = sumN _ (i + 1)
      rw [sumN]; rfl)
    rw [e1]
    exact hih
theorem Turn_ev (X : List E) (hX : X.length ≤ 128) (n : Nat) (hn : n ≤ 128) (hin : InN n X) : Ev (fun k => zy.f k (X.map toS) (n : Int)) ((turnL X n).map toS, 0) := by
  unfold zy.f
  rw [List.length_map]
  refine Ev.neg (by omega) (Ev.neg (by omega) ?_)
  rw [decide_eq_false (show ¬ ((n : Int) > 128) by omega)]
  refine Ev.step (fun k => by rw [zy.j0]) (Ev.neg (by decide) (Ev.bnd (z5L n (by omega) X) ?_))
  refine Ev.pos (decide_eq_true hin) ?_
  refine Ev.pos (Int.natCast_nonneg _) ?_
  refine Ev.pos (show ((n : Nat) : Int).toNat ≤ 17592186044416 by rw [Int.toNat_natCast]; omega) ?_
  rw [List.length_map, Int.toNat_natCast, z3Z, z3i]
  have e0 : tabL n (fun _ => (0 : E)) = tabL n (turnN X 0) := rfl
  rw [e0]
  exact turn_l0 X hX n hn X.length 0 (Nat.zero_add _)
end Go.Proofs.Ytkhmpaooinpfoaa.Sp
/- The document's sums of tensors. Own text. -/
namespace Go.Proofs.Ytkhmpaooinpfoaa.Sp
open Go.RowKit Go.Proofs.YtkhmpaooinpfoaaW.PrintWords Go.Proofs.YtkhmpaooinpfoaaW.PrintMore Go.Proofs.Ytkhmpaooinpfoaa.P Go.Proofs.Ytkhmpaooinpfoaa.Ar Go.Proofs.Ytkhmpaooinpfoaa.Tw
set_option linter.unusedVariables false
/-- The document's sums of tensors. -/
theorem z6B (X Y : List E) (hlen : X.length = Y.length) (hX : X.length ≤ 1000000) : ∀ (d i : Nat), i + d = X.length →
    Ev (fun k => zk.l0 k (X.map toR) (Y.map toR) ((tabL i (fun j => X.getD j 0 + Y.getD j 0)).map toR) (i : Int)) ((tabL X.length (fun j => X.getD j 0 + Y.getD j 0)).map toR) := by
  intro d
  induction d with
  | zero =>
    intro i hid
    have : i = X.length := by omega
    subst this
    exact Ev.step (fun k => by rw [zk.l0]) (Ev.neg (by rw [List.length_map]; exact Int.lt_irrefl _) (Ev.ret _))
  | succ d ih =>
    intro i hid
    have hi' : i < X.length := by omega
    have hih := ih (i + 1) (by omega)
    have hs : tabL (i + 1) (fun j => X.getD j 0 + Y.getD j 0) = tabL i (fun j => X.getD j 0 + Y.getD j 0) ++ [X.getD i 0 + Y.getD i 0] := z4e _ i
    rw [hs, List.map_append] at hih
    refine Ev.step (fun k => by rw [zk.l0]) (Ev.pos (by rw [List.length_map]; omega) (Ev.pos (Int.natCast_nonneg _) (Ev.pos (by rw [List.length_map]; omega) ?_)))
    simp only [rdR, z5G, z5H, z1C hi' (show X.length ≤ 4611686018427387904 by omega)]
    exact Ev.bnd0 (z5C _ _) (Ev.pos (by rw [List.length_map, z1k]; omega) hih)
theorem z3D (X Y : List E) (hlen : X.length = Y.length) (hX : X.length ≤ 1000000) : Ev (fun k => zk.f k (X.map toR) (Y.map toR)) ((tabL X.length (fun j => X.getD j 0 + Y.getD j 0)).map toR) := by
  unfold zk.f
  exact z6B X Y hlen hX X.length 0 (Nat.zero_add _)
end Go.Proofs.Ytkhmpaooinpfoaa.Sp
/- Sums, products and turns of tensors: as the program reckons them and as the document says. Own text. -/
namespace Go.Proofs.Ytkhmpaooinpfoaa.Sp
open Go.RowKit Go.Proofs.YtkhmpaooinpfoaaW.PrintWords Go.Proofs.YtkhmpaooinpfoaaW.PrintMore Go.Proofs.Ytkhmpaooinpfoaa.P Go.Proofs.Ytkhmpaooinpfoaa.Ar Go.Proofs.Ytkhmpaooinpfoaa.Tw
set_option linter.unusedVariables false
theorem pickt_at (i : Nat) (y : E) : pick (decide (i < i)) y = 0 := by rw [decide_eq_false (Nat.lt_irrefl i), z1f]
theorem z7x (i : Nat) (y : E) : pick (decide (i < i + 1)) y = y := by rw [decide_eq_true (Nat.lt_succ_self i), z1x]
theorem z6w (i k : Nat) (y : E) (h : k ≠ i) : pick (decide (k < i + 1)) y = pick (decide (k < i)) y := by
  have : decide (k < i + 1) = decide (k < i) := by rw [decide_eq_decide]; omega
  rw [this]
theorem pickt_in (n k : Nat) (y : E) (h : k < n) : pick (decide (k < n)) y = y := by rw [decide_eq_true h, z1x]
theorem z6x (k : Nat) (y : E) : pick (decide (k < 0)) y = 0 := by rw [decide_eq_false (Nat.not_lt_zero k), z1f]
/-- What hinders two tensors. -/
def mayT (L : Int) (S T : List E) : Int := if LvS L then (if S.length = 2 ^ L.toNat ∧ T.length = 2 ^ L.toNat then (if AllS L S ∧ AllS L T then 0 else 5) else 6) else 1
theorem z6f (L : Int) (S T : List E) : paskE L [S, T] [] = mayT L S T := by
  have h1 : LenT ((2 ^ L.toNat : Nat) : Int) [S, T] ↔ S.length = 2 ^ L.toNat ∧ T.length = 2 ^ L.toNat := by
    unfold LenT
    simp only [List.mem_cons, List.not_mem_nil, or_false, forall_eq_or_imp, forall_eq]
    constructor
    · intro h; exact ⟨by have := h.1; omega, by have := h.2; omega⟩
    · intro h; exact ⟨by rw [h.1], by rw [h.2]⟩
  have h2 : AllT L [S, T] ∧ AllS L [] ↔ AllS L S ∧ AllS L T := by
    unfold AllT
    simp only [List.mem_cons, List.not_mem_nil, or_false, forall_eq_or_imp, forall_eq]
    exact ⟨fun h => h.1, fun h => ⟨h, fun x hx => by cases hx⟩⟩
  unfold paskE mayT
  simp only [h1, h2]
theorem pask_one (L : Int) (S : List E) : paskE L [S] [] = mayT L S S := by
  have h1 : LenT ((2 ^ L.toNat : Nat) : Int) [S] ↔ S.length = 2 ^ L.toNat ∧ S.length = 2 ^ L.toNat := by
    unfold LenT
    simp only [List.mem_cons, List.not_mem_nil, or_false, forall_eq]
    constructor
    · intro h; exact ⟨by omega, by omega⟩
    · intro h; rw [h.1]
  have h2 : AllT L [S] ∧ AllS L [] ↔ AllS L S ∧ AllS L S := by
    unfold AllT
    simp only [List.mem_cons, List.not_mem_nil, or_false, forall_eq]
    exact ⟨fun h => ⟨h.1, h.1⟩, fun h => ⟨h.1, fun x hx => by cases hx⟩⟩
  unfold paskE mayT
  simp only [h1, h2]
theorem z4c {L : Int} {S T : List E} (h : mayT L S T = 0) : ∃ l : Nat, L = (l : Int) ∧ l ≤ 7 ∧ S.length = 2 ^ l ∧ T.length = 2 ^ l ∧ AllS (l : Int) S ∧ AllS (l : Int) T := by
  unfold mayT at h
  split at h
  · next hL =>
    split at h
    · next hlen =>
      split at h
      · next hall =>
        obtain ⟨l, rfl⟩ := Int.eq_ofNat_of_zero_le hL.1
        rw [Int.toNat_natCast] at hlen
        exact ⟨l, rfl, by have := hL.2; omega, hlen.1, hlen.2, hall.1, hall.2⟩
      · omega
    · omega
  · omega
theorem z4j (L : Int) (S T : List E) (hS : S.length ≤ 1000000) (hT : T.length ≤ 1000000) : Ev (fun k => zh.f k L (S.map toR) (T.map toR)) (mayT L S T) := by
  have h1 : ¬ LvS L → Ev (fun k => zh.j0 k L (S.map toR) (T.map toR) true) (mayT L S T) := by
    intro h
    have e : mayT L S T = 1 := if_neg h
    rw [e]
    refine Ev.step (fun k => by rw [zh.j0]) ?_
    exact Ev.pos rfl (Ev.ret _)
  unfold zh.f
  by_cases g0 : L < 0
  · exact Ev.pos g0 (h1 (by unfold LvS; omega))
  refine Ev.neg g0 ?_
  by_cases g7 : L > 7
  · rw [decide_eq_true g7]; exact h1 (by unfold LvS; omega)
  rw [decide_eq_false g7]
  have hL : LvS L := ⟨by omega, by omega⟩
  obtain ⟨l, rfl⟩ := Int.eq_ofNat_of_zero_le hL.1
  have hl : l ≤ 7 := by have := hL.2; omega
  have he : mayT (l : Int) S T = if S.length = 2 ^ l ∧ T.length = 2 ^ l then (if AllS (l : Int) S ∧ AllS (l : Int) T then 0 else 5) else 6 := by
    unfold mayT
    rw [if_pos hL, Int.toNat_natCast]
  rw [he]
  refine Ev.step (fun k => by rw [zh.j0]) (Ev.neg (by decide) (Ev.bnd (z61 l (by omega)) ?_))
  rw [List.length_map, List.length_map]
  have h6 : ¬ (S.length = 2 ^ l ∧ T.length = 2 ^ l) → Ev (fun k => zh.j1 k (l : Int) (S.map toR) (T.map toR) true) (if S.length = 2 ^ l ∧ T.length = 2 ^ l then (if AllS (l : Int) S ∧ AllS (l : Int) T then 0 else 5) else 6) := by
    intro h
    rw [if_neg h]
    refine Ev.step (fun k => by rw [zh.j1]) ?_
    exact Ev.pos rfl (Ev.ret _)
  by_cases c1 : S.length = 2 ^ l
  rotate_left
  · exact Ev.neg (by omega) (h6 (fun h => c1 h.1))
  refine Ev.pos (by omega) (Ev.bnd (z61 l (by omega)) ?_)
  by_cases c2 : T.length = 2 ^ l
  rotate_left
  · have : ((T.length : Int) != ((2 ^ l : Nat) : Int)) = true := by rw [bne_iff_ne]; omega
    rw [this]
    exact h6 (fun h => c2 h.2)
  have : ((T.length : Int) != ((2 ^ l : Nat) : Int)) = false := by rw [bne_eq_false_iff_eq]; omega
  rw [this, if_pos ⟨c1, c2⟩]
  refine Ev.step (fun k => by rw [zh.j1]) (Ev.neg (by decide) (Ev.bnd (All_ev (l : Int) S hS) ?_))
  by_cases cx : AllS (l : Int) S
  rotate_left
  · have e : (if AllS (l : Int) S ∧ AllS (l : Int) T then (0 : Int) else 5) = 5 := if_neg (fun h => cx h.1)
    rw [e]
    exact Ev.neg (by rw [decide_eq_false cx]; exact Bool.false_ne_true) (Ev.ret _)
  refine Ev.pos (decide_eq_true cx) (Ev.bnd (All_ev (l : Int) T hT) ?_)
  by_cases cp : AllS (l : Int) T
  · have e : (if AllS (l : Int) S ∧ AllS (l : Int) T then (0 : Int) else 5) = 0 := if_pos ⟨cx, cp⟩
    rw [e]
    exact Ev.pos (decide_eq_true cp) (Ev.ret _)
  · have e : (if AllS (l : Int) S ∧ AllS (l : Int) T then (0 : Int) else 5) = 5 := if_neg (fun h => cp h.2)
    rw [e]
    exact Ev.neg (by rw [decide_eq_false cp]; exact Bool.false_ne_true) (Ev.ret _)
/-- Sums. -/
def addX (S T : List E) (k : Nat) : E := S.getD k 0 + T.getD k 0
theorem tadd_l0 (S T : List E) (n : Nat) (hn : n ≤ 1000000) (hS : S.length = n) (hT : T.length = n) : ∀ (d i : Nat), i + d = n →
    Ev (fun q => zY.l0 q ((tabL n (fun u => S.getD u 0 + pick (decide (u < i)) (T.getD u 0))).map toS) (T.map toS) (n : Int) (i : Int)) ((tabL n (addX S T)).map toS, 0) := by
  intro d
  induction d with
  | zero =>
    intro i hid
    have : i = n := by omega
    subst this
    have e : tabL i (fun u => S.getD u 0 + pick (decide (u < i)) (T.getD u 0)) = tabL i (addX S T) := z1v _ (fun u hu => by rw [pickt_in _ _ _ hu]; rfl)
    rw [e]
    refine Ev.step (fun q => by rw [zY.l0]) ?_
    exact Ev.neg (Int.lt_irrefl _) (Ev.ret _)
  | succ d ih =>
    intro i hid
    have hi' : i < n := by omega
    have hih := ih (i + 1) (by omega)
    have g1 : (tabL n (fun u => S.getD u 0 + pick (decide (u < i)) (T.getD u 0))).getD i 0 = S.getD i 0 := by rw [z2a _ _ i hi', pickt_at, add_zero]
    have c1 : (i : Int) < ((T.map toS).length : Int) := by rw [List.length_map]; omega
    have c2 : (i : Int) < (((tabL n (fun u => S.getD u 0 + pick (decide (u < i)) (T.getD u 0))).map toS).length : Int) := by rw [List.length_map, z1k]; omega
    have eo : ((tabL n (fun u => S.getD u 0 + pick (decide (u < i)) (T.getD u 0))).map toS).set (i : Int).toNat (⟨hi (S.getD i 0 + T.getD i 0), lo (S.getD i 0 + T.getD i 0)⟩ : S30) = (tabL n (fun u => S.getD u 0 + pick (decide (u < i + 1)) (T.getD u 0))).map toS := by
      rw [Int.toNat_natCast, z7G, map_set]
      have hn2 := z7x i (T.getD i 0)
      conv => lhs; rw [← hn2]
      rw [z5e n _ (fun u => S.getD u 0 + pick (decide (u < i + 1)) (T.getD u 0)) i hi' (fun k _ hne => by show S.getD k 0 + _ = S.getD k 0 + _; rw [z6w i k _ hne])]
    refine Ev.step (fun q => by rw [zY.l0]) (Ev.pos (by omega) (Ev.pos (Int.natCast_nonneg _) (Ev.pos c1 (Ev.pos c2 ?_))))
    simp only [rdS, g1, z3K, z3L]
    refine Ev.bnd0 (z6F _ _) ?_
    simp only [eo, z1C hi' (show n ≤ 4611686018427387904 by omega)]
    exact hih
def addO (L : Int) (S T : List E) : List E := if mayT L S T = 0 then tabL S.length (addX S T) else []
theorem TAdd_ev (L : Int) (S T : List E) : Ev (fun k => zY.f k L (S.map toS) (T.map toS)) ((addO L S T).map toS, mayT L S T) := by
  unfold zY.f
  have ha := z5T L [S, T] []
  rw [z6f] at ha
  refine Ev.bnd ha ?_
  by_cases c : mayT L S T = 0
  rotate_left
  · have eo : addO L S T = [] := if_neg c
    rw [eo]
    exact Ev.neg c (Ev.ret _)
  have eo : addO L S T = tabL S.length (addX S T) := if_pos c
  rw [eo, c]
  obtain ⟨l, rfl, hl, hS, hT, aS, aT⟩ := z4c c
  have h128 := w128 hl
  have hcl : z1g.f (S.map toS) = some (S.map toS) := by
    unfold z1g.f
    rw [if_pos (by rw [List.length_map]; omega)]
  refine Ev.pos rfl (Ev.bnd0 hcl ?_)
  rw [List.length_map]
  have e0 : S = tabL S.length (fun u => S.getD u 0 + pick (decide (u < 0)) (T.getD u 0)) := by
    have h1 : tabL S.length (fun u => S.getD u 0 + pick (decide (u < 0)) (T.getD u 0)) = tabL S.length (fun u => S.getD u 0) := z1v _ (fun u _ => by rw [z6x, add_zero])
    rw [h1, z7F]
  have ht : (T.length : Int) = (S.length : Int) := by rw [hS, hT]
  rw [ht]
  have hgo := tadd_l0 S T S.length (by omega) rfl (by omega) S.length 0 (Nat.zero_add _)
  rw [← e0] at hgo
  exact hgo
/-- Products. -/
def timesN (n : Nat) (S T : List E) (m k : Nat) : E := sumN (fun v => actT n (fun u => S.getD u 0) (bitE v) (T.getD v 0) k) m
def timesX (n : Nat) (S T : List E) (k : Nat) : E := timesN n S T n k
theorem times_l0 {l : Nat} (hl : l ≤ 7) (S T : List E) (hS : S.length = 2 ^ l) (hT : T.length = 2 ^ l) (aS : AllS (l : Int) S) (aT : AllS (l : Int) T) : ∀ (d v : Nat), v + d = 2 ^ l →
    Ev (fun k => zB.l0 k (l : Int) (S.map toS) ((tabL (2 ^ l) (timesN (2 ^ l) S T v)).map toS) (T.map toS) ((2 ^ l : Nat) : Int) (v : Int)) ((tabL (2 ^ l) (timesX (2 ^ l) S T)).map toS, 0) := by
  have h128 := w128 hl
  intro d
  induction d with
  | zero =>
    intro v hv
    have : v = 2 ^ l := by omega
    subst this
    have e : timesN (2 ^ l) S T (2 ^ l) = timesX (2 ^ l) S T := rfl
    rw [e]
    refine Ev.step (fun k => by rw [zB.l0]) ?_
    exact Ev.neg (Int.lt_irrefl _) (Ev.ret _)
  | succ d ih =>
    intro v hv
    have hv' : v < 2 ^ l := by omega
    have hih := ih (v + 1) (by omega)
    have c1 : (v : Int) < ((T.map toS).length : Int) := by rw [List.length_map]; omega
    have hby := z72 hl (timesN (2 ^ l) S T v) S (bitE v) (T.getD v 0) aS (by omega) (z6Y hl hv') (z2Z aT v)
    have e : tabL (2 ^ l) (fun k => timesN (2 ^ l) S T v k + actT S.length (fun i => S.getD i 0) (bitE v) (T.getD v 0) k) = tabL (2 ^ l) (timesN (2 ^ l) S T (v + 1)) := by
      rw [hS]
      exact z1v _ (fun k _ => by
        show _ = sumN _ (v + 1)
        rw [sumN]; rfl)
    rw [e] at hby
    refine Ev.step (fun k => by rw [zB.l0]) (Ev.pos (by omega) ?_)
    refine Ev.pos (Int.natCast_nonneg _) ?_
    refine Ev.pos c1 ?_
    refine Ev.bnd (z2r v (by omega)) ?_
    simp only [rdS, z3K, z3L, z1C hv' (show 2 ^ l ≤ 4611686018427387904 by omega)]
    exact Ev.bnd hby hih
def timesO (L : Int) (S T : List E) : List E := if mayT L S T = 0 then tabL (2 ^ L.toNat) (timesX (2 ^ L.toNat) S T) else []
theorem z6Q (L : Int) (S T : List E) : Ev (fun k => zB.f k L (S.map toS) (T.map toS)) ((timesO L S T).map toS, mayT L S T) := by
  unfold zB.f
  have ha := z5T L [S, T] []
  rw [z6f] at ha
  refine Ev.bnd ha ?_
  by_cases c : mayT L S T = 0
  rotate_left
  · have eo : timesO L S T = [] := if_neg c
    rw [eo]
    exact Ev.neg c (Ev.ret _)
  have eo : timesO L S T = tabL (2 ^ L.toNat) (timesX (2 ^ L.toNat) S T) := if_pos c
  rw [eo, c]
  obtain ⟨l, rfl, hl, hS, hT, aS, aT⟩ := z4c c
  have h128 := w128 hl
  refine Ev.pos rfl (Ev.bnd (z4l hl) ?_)
  refine Ev.pos (Int.natCast_nonneg _) ?_
  refine Ev.pos (show (((2 ^ l : Nat) : Int)).toNat ≤ 17592186044416 by rw [Int.toNat_natCast]; exact Nat.le_trans h128 (by decide)) ?_
  rw [List.length_map, hT, Int.toNat_natCast, Int.toNat_natCast, z3Z, z3i]
  have e0 : tabL (2 ^ l) (fun _ => (0 : E)) = tabL (2 ^ l) (timesN (2 ^ l) S T 0) := rfl
  rw [e0]
  exact times_l0 hl S T hS hT aS aT (2 ^ l) 0 (Nat.zero_add _)
/-- Sides swapped. -/
def turnO (L : Int) (S : List E) : List E := if mayT L S S = 0 then turnL S (2 ^ L.toNat) else []
theorem z6R (L : Int) (S : List E) : Ev (fun k => z1d.f k L (S.map toS)) ((turnO L S).map toS, mayT L S S) := by
  unfold z1d.f
  have ha := z5T L [S] []
  rw [pask_one] at ha
  refine Ev.bnd ha ?_
  by_cases c : mayT L S S = 0
  rotate_left
  · have eo : turnO L S = [] := if_neg c
    rw [eo]
    exact Ev.neg c (Ev.ret _)
  have eo : turnO L S = turnL S (2 ^ L.toNat) := if_pos c
  rw [eo, c]
  obtain ⟨l, rfl, hl, hS, hT, aS, aT⟩ := z4c c
  have h128 := w128 hl
  rw [Int.toNat_natCast]
  exact Ev.pos rfl (Ev.bnd (z4l hl) (Ev.bnd (Turn_ev S (by omega) (2 ^ l) h128 (fun x hx => inL_of (aS x hx))) (Ev.ret _)))
/-- The document's products. -/
theorem z5W {l : Nat} (hl : l ≤ 7) (S T : List E) (hS : S.length = 2 ^ l) (hT : T.length = 2 ^ l) (u : Nat) (hu : u < 2 ^ l) (A : Nat → E) {R : List S40}
    (h : Ev (fun k => z9.l0 k (l : Int) (S.map toR) (T.map toR) ((tabL (2 ^ l) (fun k => A k + sumN (fun v => pick (hasB (bitE u * bitE v) k) (S.getD u 0 * T.getD v 0)) (2 ^ l))).map toR) ((u + 1 : Nat) : Int) 0 0) R) :
    ∀ (d v : Nat), v + d = 2 ^ l → Ev (fun k => z9.l1 k (l : Int) (S.map toR) (T.map toR) ((tabL (2 ^ l) (fun k => A k + sumN (fun v => pick (hasB (bitE u * bitE v) k) (S.getD u 0 * T.getD v 0)) v)).map toR) (u : Int) (v : Int) 0 0) R := by
  have h128 := w128 hl
  intro d
  induction d with
  | zero =>
    intro v hv
    have : v = 2 ^ l := by omega
    subst this
    refine Ev.step (fun k => by rw [z9.l1]) ?_
    rw [List.length_map, hT]
    refine Ev.neg (Int.lt_irrefl _) ?_
    rw [z1C hu (by omega)]
    exact h
  | succ d ih =>
    intro v hv
    have hv' : v < 2 ^ l := by omega
    have hih := ih (v + 1) (by omega)
    have c1 : (v : Int) < ((T.map toR).length : Int) := by rw [List.length_map]; omega
    have c2 : (u : Int) < ((S.map toR).length : Int) := by rw [List.length_map]; omega
    have hs : ∀ k, sumN (fun v => pick (hasB (bitE u * bitE v) k) (S.getD u 0 * T.getD v 0)) (v + 1) = sumN (fun v => pick (hasB (bitE u * bitE v) k) (S.getD u 0 * T.getD v 0)) v + pick (hasB (bitE u * bitE v) k) (S.getD u 0 * T.getD v 0) := fun k => by rw [sumN]
    refine Ev.step (fun k => by rw [z9.l1]) (Ev.pos c1 (Ev.pos (Int.natCast_nonneg _) (Ev.pos c2 (Ev.pos (Int.natCast_nonneg _) ?_))))
    simp only [rdR, z5G, z5H]
    refine Ev.bnd (z4E _ _) ?_
    simp only [z1C hv' (show 2 ^ l ≤ 4611686018427387904 by omega)]
    by_cases c : S.getD u 0 * T.getD v 0 = 0
    · have e : (fun k => A k + sumN (fun v => pick (hasB (bitE u * bitE v) k) (S.getD u 0 * T.getD v 0)) (v + 1)) = fun k => A k + sumN (fun v => pick (hasB (bitE u * bitE v) k) (S.getD u 0 * T.getD v 0)) v := by
        funext k; rw [hs, c, z36, add_zero]
      rw [e] at hih
      refine Ev.neg ?_ hih
      rw [c, z2E, z2G]; decide
    · have hne : (!(hi (S.getD u 0 * T.getD v 0) == 0) || (!(lo (S.getD u 0 * T.getD v 0) == 0))) = true := by
        have h2 := z79 (S.getD u 0 * T.getD v 0)
        rw [decide_eq_false c] at h2
        rw [← Bool.not_and, h2]; rfl
      have hp := z4S hl (bitE u * bitE v) (S.getD u 0 * T.getD v 0)
      have hadd := z3D (tabL (2 ^ l) (fun k => A k + sumN (fun v => pick (hasB (bitE u * bitE v) k) (S.getD u 0 * T.getD v 0)) v)) (pairX (2 ^ l) (bitE u * bitE v) (S.getD u 0 * T.getD v 0)) (by rw [z1k, z1R]) (by rw [z1k]; omega)
      have e : tabL (tabL (2 ^ l) (fun k => A k + sumN (fun v => pick (hasB (bitE u * bitE v) k) (S.getD u 0 * T.getD v 0)) v)).length (fun j => (tabL (2 ^ l) (fun k => A k + sumN (fun v => pick (hasB (bitE u * bitE v) k) (S.getD u 0 * T.getD v 0)) v)).getD j 0 + (pairX (2 ^ l) (bitE u * bitE v) (S.getD u 0 * T.getD v 0)).getD j 0)
          = tabL (2 ^ l) (fun k => A k + sumN (fun v => pick (hasB (bitE u * bitE v) k) (S.getD u 0 * T.getD v 0)) (v + 1)) := by
        rw [z1k]
        apply z1v
        intro k hk
        rw [z2a _ _ k hk, z3C _ _ _ k hk, hs, ← add_assoc]; rfl
      rw [e] at hadd
      refine Ev.pos hne ?_
      refine Ev.bnd (z3v u (by omega)) ?_
      refine Ev.bnd (z3v v (by omega)) ?_
      refine Ev.bnd (z4E _ _) ?_
      refine Ev.bnd hp ?_
      exact Ev.bnd hadd hih
def rowN (n : Nat) (S T : List E) (m k : Nat) : E := sumN (fun u => sumN (fun v => pick (hasB (bitE u * bitE v) k) (S.getD u 0 * T.getD v 0)) n) m
theorem z5V {l : Nat} (hl : l ≤ 7) (S T : List E) (hS : S.length = 2 ^ l) (hT : T.length = 2 ^ l) : ∀ (d u : Nat), u + d = 2 ^ l →
    Ev (fun k => z9.l0 k (l : Int) (S.map toR) (T.map toR) ((tabL (2 ^ l) (rowN (2 ^ l) S T u)).map toR) (u : Int) 0 0) ((tabL (2 ^ l) (rowN (2 ^ l) S T (2 ^ l))).map toR) := by
  have h128 := w128 hl
  intro d
  induction d with
  | zero =>
    intro u hu
    have : u = 2 ^ l := by omega
    subst this
    refine Ev.step (fun k => by rw [z9.l0]) ?_
    rw [List.length_map, hS]
    exact Ev.neg (Int.lt_irrefl _) (Ev.ret _)
  | succ d ih =>
    intro u hu
    have hu' : u < 2 ^ l := by omega
    have hih := ih (u + 1) (by omega)
    have e1 : tabL (2 ^ l) (rowN (2 ^ l) S T (u + 1)) = tabL (2 ^ l) (fun k => rowN (2 ^ l) S T u k + sumN (fun v => pick (hasB (bitE u * bitE v) k) (S.getD u 0 * T.getD v 0)) (2 ^ l)) := z1v _ (fun k _ => by
      show sumN _ (u + 1) = _
      rw [sumN]; rfl)
    have e0 : tabL (2 ^ l) (rowN (2 ^ l) S T u) = tabL (2 ^ l) (fun k => rowN (2 ^ l) S T u k + sumN (fun v => pick (hasB (bitE u * bitE v) k) (S.getD u 0 * T.getD v 0)) 0) := z1v _ (fun k _ => by rw [sumN, add_zero])
    rw [e1] at hih
    rw [e0]
    refine Ev.step (fun k => by rw [z9.l0]) ?_
    rw [List.length_map, hS]
    refine Ev.pos (by omega) ?_
    exact z5W hl S T hS hT u hu' (rowN (2 ^ l) S T u) hih (2 ^ l) 0 (Nat.zero_add _)
theorem z6C (n : Nat) (S T : List E) (k : Nat) : rowN n S T n k = timesX n S T k := by
  unfold rowN timesX timesN actT
  exact z4p (fun u v => pick (hasB (bitE u * bitE v) k) (S.getD u 0 * T.getD v 0)) n n
theorem z5U {l : Nat} (hl : l ≤ 7) (S T : List E) (hS : S.length = 2 ^ l) (hT : T.length = 2 ^ l) : Ev (fun k => z9.f k (l : Int) (S.map toR) (T.map toR)) ((tabL (2 ^ l) (timesX (2 ^ l) S T)).map toR) := by
  unfold z9.f
  have hp := z4S hl (0 : E) (0 : E)
  rw [z2E, z2G] at hp
  have e0 : pairX (2 ^ l) 0 0 = tabL (2 ^ l) (rowN (2 ^ l) S T 0) := z1v _ (fun k _ => z36 _)
  rw [e0] at hp
  have e1 : tabL (2 ^ l) (rowN (2 ^ l) S T (2 ^ l)) = tabL (2 ^ l) (timesX (2 ^ l) S T) := z1v _ (fun k _ => z6C _ S T k)
  refine Ev.bnd hp ?_
  rw [← e1]
  exact z5V hl S T hS hT (2 ^ l) 0 (Nat.zero_add _)
theorem z5E {l : Nat} (hl : l ≤ 7) (S : List E) (hS : S.length = 2 ^ l) : ∀ (d u : Nat), u + d = 2 ^ l →
    Ev (fun k => zn.l0 k (l : Int) (S.map toR) ((tabL (2 ^ l) (turnN S u)).map toR) (u : Int)) ((turnL S (2 ^ l)).map toR) := by
  have h128 := w128 hl
  intro d
  induction d with
  | zero =>
    intro u hu
    have : u = 2 ^ l := by omega
    subst this
    have e : turnL S (2 ^ l) = tabL (2 ^ l) (turnN S (2 ^ l)) := by unfold turnL; rw [hS]
    rw [e]
    refine Ev.step (fun k => by rw [zn.l0]) ?_
    rw [List.length_map, hS]
    exact Ev.neg (Int.lt_irrefl _) (Ev.ret _)
  | succ d ih =>
    intro u hu
    have hu' : u < 2 ^ l := by omega
    have hih := ih (u + 1) (by omega)
    have c1 : (u : Int) < ((S.map toR).length : Int) := by rw [List.length_map]; omega
    have hp := z4S hl (S.getD u 0) (bitE u)
    have hadd := z3D (tabL (2 ^ l) (turnN S u)) (pairX (2 ^ l) (S.getD u 0) (bitE u)) (by rw [z1k, z1R]) (by rw [z1k]; omega)
    have e : tabL (tabL (2 ^ l) (turnN S u)).length (fun j => (tabL (2 ^ l) (turnN S u)).getD j 0 + (pairX (2 ^ l) (S.getD u 0) (bitE u)).getD j 0) = tabL (2 ^ l) (turnN S (u + 1)) := by
      rw [z1k]
      apply z1v
      intro k hk
      rw [z2a _ _ k hk, z3C _ _ _ k hk]
      show _ = sumN _ (u + 1)
      rw [sumN]; rfl
    rw [e] at hadd
    refine Ev.step (fun k => by rw [zn.l0]) (Ev.pos c1 (Ev.pos (Int.natCast_nonneg _) (Ev.bnd (z3v u (by omega)) ?_)))
    simp only [rdR, z5G, z5H, z1C hu' (show 2 ^ l ≤ 4611686018427387904 by omega)]
    exact Ev.bnd hp (Ev.bnd hadd hih)
theorem z5D {l : Nat} (hl : l ≤ 7) (S : List E) (hS : S.length = 2 ^ l) : Ev (fun k => zn.f k (l : Int) (S.map toR)) ((turnL S (2 ^ l)).map toR) := by
  unfold zn.f
  have hp := z4S hl (0 : E) (0 : E)
  rw [z2E, z2G] at hp
  have e0 : pairX (2 ^ l) 0 0 = tabL (2 ^ l) (turnN S 0) := z1v _ (fun k _ => z36 _)
  rw [e0] at hp
  exact Ev.bnd hp (z5E hl S hS (2 ^ l) 0 (Nat.zero_add _))
end Go.Proofs.Ytkhmpaooinpfoaa.Sp
namespace Go.Proofs.Ytkhmpaooinpfoaa.Sp
open Go.RowKit Go.Proofs.YtkhmpaooinpfoaaW.PrintWords Go.Proofs.YtkhmpaooinpfoaaW.PrintMore Go.Proofs.Ytkhmpaooinpfoaa.P Go.Proofs.Ytkhmpaooinpfoaa.Ar Go.Proofs.Ytkhmpaooinpfoaa.Tw
set_option linter.unusedVariables false
theorem z3k : Ev (fun k => zA.f k) true := Ev.of zA.mono (k := 60) (by decide +kernel)
theorem few2_l0 (S T : List E) : Ev (fun k => zr.l0 k [S.map toS, T.map toS] 0) (decide (S.length ≤ 20 ∧ T.length ≤ 20)) := by
  have r0 : z2m [S.map toS, T.map toS] 0 = S.map toS := rfl
  have r1 : z2m [S.map toS, T.map toS] 1 = T.map toS := rfl
  have e01 : wrap64 ((0 : Int) + 1) = 1 := z27 (by decide) (by decide)
  have e12 : wrap64 ((1 : Int) + 1) = 2 := z27 (by decide) (by decide)
  have h2 : (([S.map toS, T.map toS] : List (List S30)).length : Int) = 2 := rfl
  refine Ev.step (fun k => by rw [zr.l0]) ?_
  simp only [h2, r0, e01, List.length_map]
  refine Ev.pos (by decide) (Ev.pos (by decide) ?_)
  by_cases cs : (S.length : Int) > 20
  · rw [decide_eq_false (fun h : S.length ≤ 20 ∧ T.length ≤ 20 => by omega)]
    exact Ev.pos cs (Ev.ret _)
  refine Ev.neg cs ?_
  refine Ev.step (fun k => by rw [zr.l0]) ?_
  simp only [h2, r1, e12, List.length_map]
  refine Ev.pos (by decide) (Ev.pos (by decide) ?_)
  by_cases ct : (T.length : Int) > 20
  · rw [decide_eq_false (fun h : S.length ≤ 20 ∧ T.length ≤ 20 => by omega)]
    exact Ev.pos ct (Ev.ret _)
  refine Ev.neg ct ?_
  rw [decide_eq_true (show S.length ≤ 20 ∧ T.length ≤ 20 by omega)]
  refine Ev.step (fun k => by rw [zr.l0]) ?_
  simp only [h2]
  exact Ev.neg (by decide) (Ev.ret _)
theorem few2_ev (L : Int) (S T : List E) : ∃ b : Bool, Ev (fun k => zr.f k L [S.map toS, T.map toS]) b ∧ (b = true → S.length ≤ 20 ∧ T.length ≤ 20) := by
  have hf : ∀ c, Ev (fun k => zr.j0 k [S.map toS, T.map toS] c) (if c = true then false else decide (S.length ≤ 20 ∧ T.length ≤ 20)) := by
    intro c
    refine Ev.step (fun k => by rw [zr.j0]) ?_
    cases c with
    | true => exact Ev.pos rfl (Ev.ret _)
    | false => exact Ev.neg Bool.false_ne_true (few2_l0 S T)
  unfold zr.f
  by_cases c4 : L > 4
  · by_cases c7 : L ≤ 7
    · refine ⟨false, Ev.pos c4 ?_, fun h => by cases h⟩
      rw [decide_eq_true c7]
      exact hf true
    · refine ⟨decide (S.length ≤ 20 ∧ T.length ≤ 20), Ev.pos c4 ?_, fun h => of_decide_eq_true h⟩
      rw [decide_eq_false c7]
      exact hf false
  · exact ⟨decide (S.length ≤ 20 ∧ T.length ≤ 20), Ev.neg c4 (hf false), fun h => of_decide_eq_true h⟩
theorem z6A (L : Int) (S T : List E) (hS : S.length ≤ 20) (hT : T.length ≤ 20) :
    Ev (fun k => z3.j1 k L ((addO L S T).map toS) ((timesO L S T).map toS) (S.map toR) (T.map toR) (mayT L S T) false) true := by
  refine Ev.step (fun k => by rw [z3.j1]) (Ev.neg (by decide) ?_)
  by_cases c : mayT L S T = 0
  rotate_left
  · have e1 : addO L S T = [] := if_neg c
    have e2 : timesO L S T = [] := if_neg c
    rw [e1, e2]
    refine Ev.neg c (Ev.bnd z3k ?_)
    refine Ev.pos rfl ?_
    exact Ev.ret' (by rw [List.map_nil]; decide +kernel)
  obtain ⟨l, rfl, hl, lS, lT, aS, aT⟩ := z4c c
  have h128 := w128 hl
  have e1 : addO (l : Int) S T = tabL S.length (addX S T) := if_pos c
  have e2 : timesO (l : Int) S T = tabL (2 ^ l) (timesX (2 ^ l) S T) := by unfold timesO; rw [if_pos c, Int.toNat_natCast]
  rw [e1, e2]
  have hadd := z3D S T (by omega) (by omega)
  refine Ev.pos c (Ev.bnd z3k ?_)
  refine Ev.pos rfl ?_
  refine Ev.bnd hadd ?_
  refine Ev.bnd (z5Q _ _ (by rw [z1k]; omega)) ?_
  refine Ev.pos (decide_eq_true rfl) ?_
  refine Ev.bnd (z5U hl S T lS lT) ?_
  refine Ev.bnd (z5Q _ _ (by rw [z1k]; omega)) ?_
  exact Ev.ret' (decide_eq_true rfl)
theorem z6z (L : Int) (S T : List E) (hS : S.length ≤ 20) (hT : T.length ≤ 20) :
    Ev (fun k => z3.j0 k L ((addO L S T).map toS) ((timesO L S T).map toS) ((turnO L S).map toS) (mayT L S S) (S.map toR) (T.map toR) (mayT L S T) false) true := by
  refine Ev.step (fun k => by rw [z3.j0]) (Ev.neg (by decide) ?_)
  have h1 := z6A L S T hS hT
  by_cases c : mayT L S S = 0
  rotate_left
  · exact Ev.neg c h1
  obtain ⟨l, rfl, hl, lS, lT, aS, aT⟩ := z4c c
  have h128 := w128 hl
  have e1 : turnO (l : Int) S = turnL S (2 ^ l) := by unfold turnO; rw [if_pos c, Int.toNat_natCast]
  rw [e1]
  have hlen : (turnL S (2 ^ l)).length ≤ 1000000 := by unfold turnL; rw [z1k]; omega
  refine Ev.pos c (Ev.bnd (z5D hl S lS) (Ev.bnd (z5Q _ _ hlen) ?_))
  have : (!decide (turnL S (2 ^ l) = turnL S (2 ^ l))) = false := by rw [decide_eq_true rfl]; rfl
  rw [this]
  exact h1
end Go.Proofs.Ytkhmpaooinpfoaa.Sp
namespace Go.Proofs.Ytkhmpaooinpfoaa.Pure
open Go.RowKit Go.Proofs.YtkhmpaooinpfoaaW.PrintWords Go.Proofs.YtkhmpaooinpfoaaW.PrintMore Go.Proofs.Ytkhmpaooinpfoaa.P Go.Proofs.Ytkhmpaooinpfoaa.Ar Go.Proofs.Ytkhmpaooinpfoaa.Tw Go.Proofs.Ytkhmpaooinpfoaa.Sp
set_option linter.unusedVariables false
theorem PackvReckons : Stated.packvReckons.Pure := by
  intro L l1 l2 h0 h1 h2
  obtain ⟨S, rfl⟩ := z7k l1 h1.1
  obtain ⟨T, rfl⟩ := z7k l2 h2.1
  refine Ev.rounds (g := fun k => z3.f k L (S.map toS) (T.map toS)) ?_
  unfold z3.f
  obtain ⟨b, hf, hb⟩ := few2_ev L S T
  refine Ev.bnd hf ?_
  cases b with
  | false =>
    refine Ev.neg Bool.false_ne_true ?_
    exact Ev.bnd z3k (Ev.ret _)
  | true =>
    obtain ⟨hS, hT⟩ := hb rfl
    refine Ev.pos rfl ?_
    refine Ev.bnd (TAdd_ev L S T) ?_
    refine Ev.bnd (z6Q L S T) ?_
    refine Ev.bnd (z6R L S) ?_
    refine Ev.bnd (Ref_ev S (by omega)) ?_
    refine Ev.bnd (Ref_ev T (by omega)) ?_
    refine Ev.bnd (z4j L S T (by omega) (by omega)) ?_
    refine Ev.pos rfl ?_
    refine Ev.pos rfl ?_
    refine Ev.bnd (z4j L S S (by omega) (by omega)) ?_
    have : (mayT L S S != mayT L S S) = false := by simp
    simp only [this]
    exact z6z L S T hS hT
end Go.Proofs.Ytkhmpaooinpfoaa.Pure
-- Own text, written by wip/tools/gen.py: the row of the law PackvReckons, out of its pure statement (PurePackvReckons) and the walk.
namespace Go.Proofs.Ytkhmpaooinpfoaa.packvReckons
open Go.ChangeShapes Go.WideShapes Go.ChangeAt Go.RowKit Go.Proofs.YtkhmpaooinpfoaaW.PrintWords Go.Proofs.Ytkhmpaooinpfoaa.P Go.Proofs.Ytkhmpaooinpfoaa.Reads
set_option linter.unusedVariables false
set_option linter.unusedSimpArgs false
theorem own : ownKnob Try.prog.godebug = none := by kernel_rfl
theorem laidOut : laidOutB Try.prog = true := by kernel_rfl
theorem op30 : ReadsAs Try.prog 30 k30 (fun x => ((Lit.int .u64 x.f0).wf = true) ∧ ((Lit.int .u64 x.f1).wf = true)) :=
  (z7q (fun x : S30 => (x.f0, x.f1)) (fun a => ⟨⟨a.1, a.2⟩, rfl⟩) Try.underlying30 rfl (by kernel_rfl) (z7r (by kernel_rfl) (by kernel_rfl) (z7p Try.underlying28) (z7s (by kernel_rfl) (by kernel_rfl) (z7p Try.underlying28)) (by intro g hg; simp only [List.mem_cons, List.not_mem_nil, or_false] at hg; rcases hg with rfl <;> exact of_decide_eq_true (by kernel_rfl))))
theorem op24 : ReadsAs Try.prog 24 (Kd.slice 30 k30) (fun l => (∀ x_ ∈ l, ((Lit.int .u64 x_.f0).wf = true) ∧ ((Lit.int .u64 x_.f1).wf = true)) ∧ l.length ≤ maxLen) := op_slice Try.underlying24 (by kernel_rfl) op30
set_option maxRecDepth 100000 in
theorem lifted (os : Os) (started : os.Started) (H : Type) (enc : TypeId × Value → H) :
    ReturnsInHanded {} Try.checked os 7 .any (Rows.packvReckonsSpec.pre6 enc Try.prog Try.f7 Rows.packvReckonsRow.domain false) (Rows.packvReckonsSpec.post enc Try.prog Try.f7 false true false false) := by
  refine returnsInHanded_of_change_sized (C := Try.checked) own started (by kernel_rfl) Try.func7
    (ChangeSpec.witness6 (enc := enc) (C := Try.checked) false ⟨#[], #[.int .i64 0, .slice none 0 0, .slice none 0 0], []⟩ 8 (by kernel_rfl) (by kernel_rfl) (by kernel_rfl) (by kernel_rfl)) ?_
  intro W base args ds gs before hval0 hW hcnd hsz0 _
  have hval : ∀ (j : Nat) t v, Try.f7.params[j]? = some t → args[j]? = some v → Value.okWide Try.prog W .any base t v := hval0
  have hW' := hW
  obtain ⟨p, q, hA0, hV, rfl, hfz, hnd⟩ := hW
  have hA : DataW.TrodAll enc Try.prog W 0 (fun _ => true) true Try.f7.params.toList args.toList ds p := hA0
  rw [Try.params7] at hA hval
  obtain ⟨v0, vs0, d0, ds0, p0, q0, hargs, rfl, rfl, h0, r0⟩ := trodAll_cons hA
  obtain ⟨v1, vs1, d1, ds1, p1, q1, rfl, rfl, rfl, h1, r1⟩ := trodAll_cons r0
  obtain ⟨v2, vs2, d2, ds2, p2, q2, rfl, rfl, rfl, h2, r2⟩ := trodAll_cons r1
  obtain ⟨rfl, rfl, rfl⟩ := trodAll_nil r2
  obtain rfl : args = #[v0, v1, v2] := by cases args; simp_all
  obtain ⟨rfl, rfl⟩ := trodVars_none hV
  have k0 := h0
  have lt0 : ∀ x ∈ p0, x.block < W.heap.size := by obtain ⟨m, hm⟩ := k0; exact DataW.trod_lt m _ _ _ hm
  obtain ⟨x0, rfl, g0⟩ := arg_int Try.underlying3 (hval 0 3 v0 rfl rfl) h0
  have k1 := h1
  have lt1 : ∀ x ∈ p1, x.block < W.heap.size := by obtain ⟨m, hm⟩ := k1; exact DataW.trod_lt m _ _ _ hm
  obtain ⟨x1, A1, c1, rfl, hc1, hr1, g1⟩ := z5p op24 Try.underlying24 (hval 1 24 v1 rfl rfl) h1
  have k2 := h2
  have lt2 : ∀ x ∈ p2, x.block < W.heap.size := by obtain ⟨m, hm⟩ := k2; exact DataW.trod_lt m _ _ _ hm
  obtain ⟨x2, A2, c2, rfl, hc2, hr2, g2⟩ := z5p op24 Try.underlying24 (hval 2 24 v2 rfl rfl) h2
  clear hA0 hval0 hsz0
  obtain ⟨k, hpure⟩ := Pure.PackvReckons x0 x1 x2 g0 g1 g2
  refine (z3.calls k x0 (fun k_ => k_ < W.heap.size) _ _ x1 (fun k_ => k_ < W.heap.size) _ _ x2 true W (Kd.V_mk hc1 (Kd.C_F z2z hr1)) (Kd.V_mk hc2 (Kd.C_F z2z hr2)) hpure).mono fun e W' hh => ?_
  obtain ⟨rfl, bel0⟩ := hh
  have bel : Below W.heap.size W W' := bel0
  exact ⟨_, rfl, _, _, _, [], _, [], hW', trodAll_mk1 (shut_bool Try.underlying4 _), (trodAll_cons_mk (Below.trod laidOut (by kernel_rfl) (of_decide_eq_true (by kernel_rfl)) k0 bel lt0) (trodAll_cons_mk (Below.trod laidOut (by kernel_rfl) (of_decide_eq_true (by kernel_rfl)) k1 bel lt1) (trodAll_cons_mk (Below.trod laidOut (by kernel_rfl) (of_decide_eq_true (by kernel_rfl)) k2 bel lt2) trodAll_mk0))), rfl, bel.frame _, fun h => by cases h⟩
theorem over : Rows.packvReckonsRow.holds Try.pinned (OpenSpec.ofChange Rows.packvReckonsSpec) :=
  OpenClaim.holds_of_wide 7 Try.f7 rfl rfl rfl rfl rfl rfl rfl ⟨rfl, rfl, rfl, rfl, rfl⟩ rfl rfl rfl rfl rfl (by kernel_rfl) Try.func7 (by kernel_rfl)
    (of_decide_eq_true (by kernel_rfl)) (by unfold Func.isWrapper; first | (rw [if_pos (by decide +kernel)]; kernel_rfl) | (rw [if_neg (by decide +kernel)]; exact ⟨rfl, rfl⟩))
    (fun os started H enc _ => lifted os started H enc)
theorem proved : Rows.PackvReckonsSaid := over
#print axioms proved
end Go.Proofs.Ytkhmpaooinpfoaa.packvReckons
namespace Go.Proofs.Ytkhmpaooinpfoaa
/-- The row, under a short name, for the claim. -/
theorem packvReckons_holds : Rows.PackvReckonsSaid := packvReckons.proved
end Go.Proofs.Ytkhmpaooinpfoaa

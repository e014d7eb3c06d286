/- SpanMaps: what any map makes of any element, and what one makes behind another one, or the error; for maps of up to 40 elements, or more than may be. Own text. -/
import Derived.Test.YtnhbdhgbmjcjdaaRows
import Derived.WalkKit
import Derived.ProofKit
import Derived.OpenShut
import Derived.ShutString
import Derived.ChangeOld
import Derived.Below
import Derived.SizedLaws
import Derived.Carry
import Derived.Test.YtnhbdhgbmjcjdaaMSpanMapsb
import Derived.Test.YtnhbdhgbmjcjdaaMSpanMapsd
import Derived.Test.YtnhbdhgbmjcjdaaMSpanMapse
import Derived.Test.YtnhbdhgbmjcjdaaMSpanMapsf
/- Sums of pairs of elements: bits of elements are sums, and a pair times an element on the left is the pair of the product. Own text; nothing of the program in it. -/
namespace Go.Proofs.Ytnhbdhgbmjcjdaa.Sp
open Go.RowKit Go.Proofs.YtnhbdhgbmjcjdaaW.PrintWords Go.Proofs.YtnhbdhgbmjcjdaaW.PrintMore Go.Proofs.Ytnhbdhgbmjcjdaa.P Go.Proofs.Ytnhbdhgbmjcjdaa.Ar Go.Proofs.Ytnhbdhgbmjcjdaa.Tw
set_option linter.unusedVariables false
theorem z3j (b : Bool) (y z : E) : pick b (y + z) = pick b y + pick b z := by
  cases b
  · rw [z1l, z1l, z1l, add_zero]
  · rw [z1y, z1y, z1y]
theorem z4t (b : Bool) (y z : E) : pick b (y * z) = pick b y * z := by
  cases b
  · rw [z1l, z1l, zero_mul]
  · rw [z1y, z1y]
theorem z6o (b : Bool) : pick b (0 : E) = 0 := by
  cases b
  · exact z1l _
  · exact z1y _
theorem pick_xor (a b : Bool) (y : E) : pick (a ^^ b) y = pick a y + pick b y := by
  cases a <;> cases b
  · show pick false y = _; rw [z1l, add_zero]
  · show pick true y = _; rw [z1l, z1y, zero_add]
  · show pick true y = _; rw [z1l, z1y, add_zero]
  · show pick false y = _; rw [z1l, z1y, z20]
theorem z6n (a b : Bool) (y : E) : pick a (pick b y) = pick b (pick a y) := by
  cases a <;> cases b <;> simp only [z1y, z1l]
/-- Has an element the bit? -/
def hasB (x : E) (k : Nat) : Bool := (val x).testBit k
theorem hasB_add (x y : E) (k : Nat) : hasB (x + y) k = (hasB x k ^^ hasB y k) := by
  unfold hasB; rw [z1E, Nat.testBit_xor]
theorem z4F (k : Nat) : hasB 0 k = false := by unfold hasB; rw [z1z, Nat.zero_testBit]
/-- What the bit k of z picks of y is a sum in z. -/
theorem z2X (x z y : E) (k : Nat) : pick (hasB (x + z) k) y = pick (hasB x k) y + pick (hasB z k) y := by rw [hasB_add, pick_xor]
theorem z2o (f : Nat → E) (y : E) (k : Nat) : ∀ n, pick (hasB (sumN f n) k) y = sumN (fun u => pick (hasB (f u) k) y) n
  | 0 => by rw [sumN, sumN, z4F, z1l]
  | n + 1 => by rw [sumN, sumN, z2X, z2o f y k n]
theorem z2O (b : Bool) (x y : E) (k : Nat) : pick (hasB (pick b x) k) y = pick b (pick (hasB x k) y) := by
  cases b
  · rw [z1l, z1l, z4F, z1l]
  · rw [z1y, z1y]
theorem z4u (b : Bool) (f : Nat → E) : ∀ n, pick b (sumN f n) = sumN (fun u => pick b (f u)) n
  | 0 => z6o b
  | n + 1 => by rw [sumN, sumN, z3j, z4u b f n]
theorem z3G (c : E) (f : Nat → E) (n : Nat) : sumN (fun i => f i * c) n = sumN f n * c := by
  rw [mul_comm, ← z5j]
  exact z1u n (fun i _ => mul_comm _ _)
theorem z3H (f : Nat → Nat → E) (n : Nat) : ∀ m, sumN (fun i => sumN (fun j => f i j) m) n = sumN (fun j => sumN (fun i => f i j) n) m
  | 0 => z3I n
  | m + 1 => by
    rw [sumN, ← z3H f n m, ← z2L]
    exact z1u n (fun i _ => rfl)
theorem sumN_one (f : Nat → E) (n i : Nat) (hi : i < n) (h : ∀ j, j < n → j ≠ i → f j = 0) : sumN f n = f i := by
  induction n with
  | zero => omega
  | succ n ih =>
    rw [sumN]
    by_cases c : i = n
    · subst c
      have : sumN f i = 0 := by
        rw [z1u (g := fun _ => 0) i (fun j hj => h j (by omega) (by omega))]; exact z3I i
      rw [this, zero_add]
    · rw [ih (by omega) (fun j hj hne => h j (by omega) hne), h n (by omega) (fun e => c e.symm), add_zero]
theorem z3l {n : Nat} (hn : n < 128) : val (bitE n) = 2 ^ n := by
  unfold bitE
  exact z1U 7 _ (by rw [z4c]; exact Nat.pow_lt_pow_right (by decide) hn)
theorem z5l (b : Bool) (x : E) : val (pick b x) = if b then val x else 0 := by
  cases b
  · rw [z1l, z1z]; rfl
  · rw [z1y]; rfl
/-- An element is the sum of its bits. -/
theorem z3a (x : E) : ∀ n, n ≤ 128 → val (sumN (fun u => pick (hasB x u) (bitE u)) n) = val x % 2 ^ n
  | 0, _ => by rw [sumN, z1z, Nat.pow_zero, Nat.mod_one]
  | n + 1, h => by
    rw [sumN, z1E, z3a x n (by omega), z5l, z3l (by omega)]
    apply Nat.eq_of_testBit_eq
    intro j
    rw [Nat.testBit_xor, Nat.testBit_mod_two_pow, Nat.testBit_mod_two_pow]
    show _ = _
    unfold hasB
    generalize val x = v
    by_cases c : j = n
    · subst c
      cases hb : v.testBit j with
      | true => rw [if_pos rfl, Nat.testBit_two_pow_self]; simp
      | false => rw [if_neg Bool.false_ne_true, Nat.zero_testBit]; simp
    · have h2 : (if v.testBit n then 2 ^ n else 0 : Nat).testBit j = false := by
        cases v.testBit n with
        | true => rw [if_pos rfl, Nat.testBit_two_pow]; simp; omega
        | false => rw [if_neg Bool.false_ne_true, Nat.zero_testBit]
      rw [h2, Bool.xor_false]
      have : decide (j < n + 1) = decide (j < n) := by rw [decide_eq_decide]; omega
      rw [this]
theorem expand {l : Nat} (hl : l ≤ 7) {x : E} (hx : InL l x) : sumN (fun u => pick (hasB x u) (bitE u)) (2 ^ l) = x := by
  apply z2h
  rw [z3a x (2 ^ l) (w128 hl)]
  exact Nat.mod_eq_of_lt hx
theorem bitE_in {l u : Nat} (hl : l ≤ 7) (hu : u < 2 ^ l) : InL l (bitE u) := by
  unfold InL Q
  rw [z3l (Nat.lt_of_lt_of_le hu (w128 hl))]
  exact Nat.pow_lt_pow_right (by decide) hu
theorem bitE_zero : bitE 0 = 1 := by
  apply z2h; rw [z3l (by decide), z2r]
/-- The bits of a product are sums of those of the products of bits. -/
theorem has_mul {l : Nat} (hl : l ≤ 7) {x : E} (hx : InL l x) (a y : E) (k : Nat) : sumN (fun u => pick (hasB x u) (pick (hasB (bitE u * a) k) y)) (2 ^ l) = pick (hasB (x * a) k) y := by
  have h1 : x * a = sumN (fun u => pick (hasB x u) (bitE u * a)) (2 ^ l) := by
    conv => lhs; rw [← expand hl hx]
    rw [← z3G]
    exact z1u _ (fun u _ => (z4t _ _ _).symm)
  rw [h1, z2o]
  exact z1u _ (fun u _ => (z2O _ _ _ _).symm)
/-- Part k of a tensor times an element on the left, its parts times another one. -/
def actT (n : Nat) (t : Nat → E) (a p : E) (k : Nat) : E := sumN (fun u => pick (hasB (bitE u * a) k) (t u * p)) n
theorem z5S {l : Nat} (hl : l ≤ 7) {x : E} (hx : InL l x) (y a p : E) (k : Nat) : actT (2 ^ l) (fun u => pick (hasB x u) y) a p k = pick (hasB (x * a) k) (y * p) := by
  unfold actT
  rw [← has_mul hl hx a (y * p) k]
  exact z1u _ (fun u _ => by rw [← z4t, z6n])
theorem actT_congr (n : Nat) {t s : Nat → E} (a p : E) (k : Nat) (h : ∀ u, u < n → t u = s u) : actT n t a p k = actT n s a p k := by
  unfold actT; exact z1u _ (fun u hu => by rw [h u hu])
theorem actT_sum (n m : Nat) (t : Nat → Nat → E) (a p : E) (k : Nat) : actT n (fun u => sumN (fun i => t i u) m) a p k = sumN (fun i => actT n (t i) a p k) m := by
  unfold actT
  rw [z3H (fun i u => pick (hasB (bitE u * a) k) (t i u * p)) m n]
  exact z1u _ (fun u _ => by rw [← z3G, z4u])
theorem actT_add (n : Nat) (t s : Nat → E) (a p : E) (k : Nat) : actT n (fun u => t u + s u) a p k = actT n t a p k + actT n s a p k := by
  unfold actT
  rw [← z2L]
  exact z1u _ (fun u _ => by rw [add_mul, z3j])
theorem pick_in {l : Nat} {x : E} (b : Bool) (h : InL l x) : InL l (pick b x) := by
  cases b
  · rw [z1l]; exact z4l l
  · rw [z1y]; exact h
theorem z6s {l : Nat} (f : Nat → E) : ∀ n, (∀ i, i < n → InL l (f i)) → InL l (sumN f n)
  | 0, _ => z4l l
  | n + 1, h => by rw [sumN]; exact z4i (z6s f n (fun i hi => h i (by omega))) (h n (by omega))
theorem actT_in {l : Nat} (hl : l ≤ 7) (n : Nat) (t : Nat → E) (a p : E) (k : Nat) (ht : ∀ u, u < n → InL l (t u)) (hp : InL l p) : InL l (actT n t a p k) :=
  z6s _ n (fun u hu => pick_in _ (z4k hl (ht u hu) hp))
/-- Weights, variable by variable from behind. -/
theorem z4R {l : Nat} (hl : l ≤ 7) : ∀ (P : List E) (i : Nat), (∀ p ∈ P, InL l p) → InL l (weight P i)
  | [], i, _ => z65 l
  | p :: ps, i, h => by
    have hp := h p List.mem_cons_self
    rw [weight]
    refine z4k hl ?_ (z4R hl ps (i / 2) (fun q hq => h q (List.mem_cons_of_mem _ hq)))
    split
    · exact hp
    · exact z4i (z65 l) hp
theorem z2T (p : E) : ∀ (P : List E) (i : Nat), weight (P ++ [p]) i = weight P i * (if i / 2 ^ P.length % 2 = 1 then p else 1 + p)
  | [], i => by
    show weight (p :: []) i = weight [] i * _
    rw [weight, weight, weight, mul_one, one_mul]
    simp
  | q :: Q, i => by
    show weight (q :: (Q ++ [p])) i = weight (q :: Q) i * _
    rw [weight, weight, z2T p Q (i / 2), mul_assoc, Nat.div_div_eq_div_mul, List.length_cons, Nat.pow_succ, Nat.mul_comm 2]
theorem z3N (b : Nat) : ∀ (P : List E) (i : Nat), i < 2 ^ P.length → weight P (2 ^ P.length * b + i) = weight P i
  | [], i, _ => rfl
  | q :: Q, i, h => by
    rw [List.length_cons, Nat.pow_succ] at h
    have e1 : (2 ^ (q :: Q).length * b + i) % 2 = i % 2 := by
      rw [List.length_cons, Nat.pow_succ, Nat.mul_comm (2 ^ Q.length) 2, Nat.mul_assoc]; omega
    have e2 : (2 ^ (q :: Q).length * b + i) / 2 = 2 ^ Q.length * b + i / 2 := by
      rw [List.length_cons, Nat.pow_succ, Nat.mul_comm (2 ^ Q.length) 2, Nat.mul_assoc]; omega
    rw [weight, weight, e1, e2, z3N b Q (i / 2) (by omega)]
theorem z49 (p : E) (P : List E) (i : Nat) (h : i < 2 ^ P.length) : weight (P ++ [p]) i = weight P i * (1 + p) := by
  rw [z2T, Nat.div_eq_of_lt h]; rfl
theorem z4S (p : E) (P : List E) (i : Nat) (h : i < 2 ^ P.length) : weight (P ++ [p]) (2 ^ P.length + i) = weight P i * p := by
  have h0 := z3N 1 P i h
  rw [Nat.mul_one] at h0
  have e : (2 ^ P.length + i) / 2 ^ P.length % 2 = 1 := by
    rw [Nat.add_div_left _ (Nat.two_pow_pos _), Nat.div_eq_of_lt h]
  rw [z2T, h0, e]; rfl
/-- How alike two points are, part by part. -/
def alikeX (P R : List E) (k : Nat) : E := sumN (fun i => pick (hasB (weight P i) k) (weight R i)) (2 ^ P.length)
theorem alikeX_nil (k : Nat) : alikeX [] [] k = pick (hasB 1 k) 1 := by
  unfold alikeX
  show sumN _ 1 = _
  rw [sumN, sumN, zero_add]; rfl
theorem alikeX_snoc {l : Nat} (hl : l ≤ 7) (P R : List E) (p r : E) (hP : ∀ x ∈ P, InL l x) (hlen : P.length = R.length) (k : Nat) :
    alikeX (P ++ [p]) (R ++ [r]) k = alikeX P R k + actT (2 ^ l) (alikeX P R) p 1 k + alikeX P R k * r := by
  have e1 : actT (2 ^ l) (alikeX P R) p 1 k = sumN (fun i => pick (hasB (weight P i * p) k) (weight R i)) (2 ^ P.length) := by
    unfold alikeX
    rw [actT_sum]
    exact z1u _ (fun i _ => by rw [z5S hl (z4R hl P i hP), mul_one])
  have e2 : alikeX P R k * r = sumN (fun i => pick (hasB (weight P i) k) (weight R i * r)) (2 ^ P.length) := by
    unfold alikeX
    rw [← z3G]
    exact z1u _ (fun i _ => (z4t _ _ _).symm)
  rw [e1, e2]
  unfold alikeX
  rw [← z2L, ← z2L, List.length_append, List.length_singleton, Nat.pow_succ, Nat.mul_two, z44, ← z2L]
  apply z1u
  intro i hi
  have hi' : i < 2 ^ R.length := by rw [← hlen]; exact hi
  rw [z49 p P i hi, z4S p P i hi, z49 r R i hi', show 2 ^ P.length + i = 2 ^ R.length + i by rw [hlen], z4S r R i hi']
  generalize weight P i = w
  generalize weight R i = v
  rw [mul_add, mul_add, mul_one, mul_one, z2X, z3j, z3j]
  generalize pick (hasB w k) v = a
  generalize pick (hasB (w * p) k) v = b
  generalize pick (hasB w k) (v * r) = c
  generalize pick (hasB (w * p) k) (v * r) = d
  have : a + c + (b + d) + d = a + b + c := by
    rw [add_assoc (a + c), add_assoc b d d, z20, add_zero, add_assoc a c b, add_comm c b, ← add_assoc]
  exact this
end Go.Proofs.Ytnhbdhgbmjcjdaa.Sp
/- The program's sums of pairs: a tensor times an element on the left, parts by another one, added to one. Own text. -/
namespace Go.Proofs.Ytnhbdhgbmjcjdaa.Sp
open Go.RowKit Go.Proofs.YtnhbdhgbmjcjdaaW.PrintWords Go.Proofs.YtnhbdhgbmjcjdaaW.PrintMore Go.Proofs.Ytnhbdhgbmjcjdaa.P Go.Proofs.Ytnhbdhgbmjcjdaa.Ar Go.Proofs.Ytnhbdhgbmjcjdaa.Tw
set_option linter.unusedVariables false
/-- A list of so many elements. -/
def tabL (n : Nat) (f : Nat → E) : List E := (List.range n).map f
theorem z1D (n : Nat) (f : Nat → E) : (tabL n f).length = n := by simp [tabL]
theorem z28 (n : Nat) (f : Nat → E) (i : Nat) (h : i < n) : (tabL n f).getD i 0 = f i := z3v f 0 n i h
theorem z2M (n : Nat) {f g : Nat → E} (h : ∀ i, i < n → f i = g i) : tabL n f = tabL n g := by
  unfold tabL
  apply List.map_congr_left
  intro i hi
  exact h i (List.mem_range.1 hi)
theorem tabL_self (X : List E) : tabL X.length (fun i => X.getD i 0) = X := by
  apply z3g (z1D _ _)
  intro i hi
  rw [z1D] at hi
  exact z28 _ _ i hi
theorem tabL_set (n : Nat) (f g : Nat → E) (i : Nat) (hi : i < n) (hg : ∀ k, k < n → k ≠ i → g k = f k) : (tabL n f).set i (g i) = tabL n g := by
  apply z3g
  · rw [List.length_set, z1D, z1D]
  · intro k hk
    rw [List.length_set, z1D] at hk
    rw [z28 n g k hk]
    by_cases c : i = k
    · subst c
      exact z4g (by rw [z1D]; exact hi) _
    · rw [getD_set_ne c, z28 n f k hk, hg k hk (fun e => c e.symm)]
theorem z3Q (n : Nat) : List.replicate n (0 : E) = tabL n (fun _ => 0) := by
  apply z3g
  · rw [List.length_replicate, z1D]
  · intro i hi
    rw [List.length_replicate] at hi
    rw [z28 n _ i hi, List.getD_eq_getElem?_getD, List.getElem?_replicate, if_pos hi]; rfl
theorem tabL_all {l : Nat} (hl : l ≤ 7) (n : Nat) (f : Nat → E) (h : ∀ i, i < n → InL l (f i)) : AllS (l : Int) (tabL n f) := by
  intro x hx
  unfold tabL at hx
  obtain ⟨i, hi, rfl⟩ := List.mem_map.1 hx
  exact ⟨by omega, by omega, by rw [Int.toNat_natCast]; exact h i (List.mem_range.1 hi)⟩
theorem ofS_of {l : Nat} (hl : l ≤ 7) {x : E} (h : InL l x) : OfS (l : Int) x := ⟨by omega, by omega, by rw [Int.toNat_natCast]; exact h⟩
theorem inL_of {l : Nat} {x : E} (h : OfS (l : Int) x) : InL l x := by have := h.2.2; rwa [Int.toNat_natCast] at this
/-- One product's bits, each with y, added to what there is. -/
def bitAdd (f : Nat → E) (z y : E) (i k : Nat) : E := f k + pick (decide (k < i) && hasB z k) y
theorem z4W (f : Nat → E) (z y : E) (k : Nat) : bitAdd f z y 0 k = f k := by
  unfold bitAdd
  rw [decide_eq_false (Nat.not_lt_zero k), Bool.false_and, z1l, add_zero]
theorem z4B (f : Nat → E) (z y : E) (i : Nat) : bitAdd f z y i i = f i := by
  unfold bitAdd
  rw [decide_eq_false (Nat.lt_irrefl i), Bool.false_and, z1l, add_zero]
theorem z3u (f : Nat → E) (z y : E) (i k : Nat) (h : k ≠ i) : bitAdd f z y (i + 1) k = bitAdd f z y i k := by
  unfold bitAdd
  have : decide (k < i + 1) = decide (k < i) := by rw [decide_eq_decide]; omega
  rw [this]
theorem z3Y (f : Nat → E) (z y : E) (i : Nat) : bitAdd f z y (i + 1) i = f i + pick (hasB z i) y := by
  unfold bitAdd
  rw [decide_eq_true (Nat.lt_succ_self i), Bool.true_and]
theorem z5t (f : Nat → E) (z y : E) (n k : Nat) (h : k < n) : bitAdd f z y n k = f k + pick (hasB z k) y := by
  unfold bitAdd
  rw [decide_eq_true h, Bool.true_and]
end Go.Proofs.Ytnhbdhgbmjcjdaa.Sp
/- Elements as rows of bits: the leading bit, whether bits stand below n, bits turned about. Own text. -/
namespace Go.Proofs.Ytnhbdhgbmjcjdaa.Sp
open Go.RowKit Go.Proofs.YtnhbdhgbmjcjdaaW.PrintWords Go.Proofs.YtnhbdhgbmjcjdaaW.PrintMore Go.Proofs.Ytnhbdhgbmjcjdaa.P Go.Proofs.Ytnhbdhgbmjcjdaa.Ar Go.Proofs.Ytnhbdhgbmjcjdaa.Tw
set_option linter.unusedVariables false
/-- How many bits a number has. -/
def blen (n : Nat) : Nat := if n = 0 then 0 else Nat.log2 n + 1
theorem z24 (n k : Nat) : blen n ≤ k ↔ n < 2 ^ k := by
  unfold blen
  by_cases h : n = 0
  · rw [if_pos h, h]
    exact ⟨fun _ => Nat.two_pow_pos k, fun _ => Nat.zero_le _⟩
  · rw [if_neg h, ← Nat.log2_lt h]
    exact ⟨fun h => h, fun h => h⟩
theorem z2k (n s : Nat) (h : 2 ^ s ≤ n) : blen n = blen (n / 2 ^ s) + s := by
  have key : ∀ k, blen n ≤ k + s ↔ blen (n / 2 ^ s) ≤ k := by
    intro k
    rw [z24, z24, Nat.div_lt_iff_lt_mul (Nat.two_pow_pos s), ← Nat.pow_add]
  have hs : s ≤ blen n := by
    apply Classical.byContradiction
    intro g
    have := (z24 n s).1 (by omega)
    omega
  have h1 := (key (blen (n / 2 ^ s))).2 (Nat.le_refl _)
  have h2 := (key (blen n - s)).1 (by omega)
  omega
def len8 : ByteArray := ⟨#[0, 1, 2, 2, 3, 3, 3, 3, 4, 4, 4, 4, 4, 4, 4, 4, 5, 5, 5, 5, 5, 5, 5, 5, 5, 5, 5, 5, 5, 5, 5, 5, 6, 6, 6, 6, 6, 6, 6, 6, 6, 6, 6, 6, 6, 6, 6, 6, 6, 6, 6, 6, 6, 6, 6, 6, 6, 6, 6, 6, 6, 6, 6, 6, 7, 7, 7, 7, 7, 7, 7, 7, 7, 7, 7, 7, 7, 7, 7, 7, 7, 7, 7, 7, 7, 7, 7, 7, 7, 7, 7, 7, 7, 7, 7, 7, 7, 7, 7, 7, 7, 7, 7, 7, 7, 7, 7, 7, 7, 7, 7, 7, 7, 7, 7, 7, 7, 7, 7, 7, 7, 7, 7, 7, 7, 7, 7, 7, 8, 8, 8, 8, 8, 8, 8, 8, 8, 8, 8, 8, 8, 8, 8, 8, 8, 8, 8, 8, 8, 8, 8, 8, 8, 8, 8, 8, 8, 8, 8, 8, 8, 8, 8, 8, 8, 8, 8, 8, 8, 8, 8, 8, 8, 8, 8, 8, 8, 8, 8, 8, 8, 8, 8, 8, 8, 8, 8, 8, 8, 8, 8, 8, 8, 8, 8, 8, 8, 8, 8, 8, 8, 8, 8, 8, 8, 8, 8, 8, 8, 8, 8, 8, 8, 8, 8, 8, 8, 8, 8, 8, 8, 8, 8, 8, 8, 8, 8, 8, 8, 8, 8, 8, 8, 8, 8, 8, 8, 8, 8, 8, 8, 8, 8, 8, 8, 8, 8, 8, 8, 8, 8, 8, 8, 8, 8, 8]⟩
theorem len8_eq : ∀ b : Nat, b < 256 → bt len8 (b : Int) = ((blen b : Nat) : Int) := by decide +kernel
theorem len_j0 (n : Nat) (hn : n < 2 ^ 32) (x : Nat) (hx : x ≤ 1000) : Ev (fun k => zV.j0 k (n : Int) (x : Int)) ((x + blen n : Nat) : Int) := by
  have fin : ∀ (m y : Nat), m < 256 → y ≤ 2000 → wrap64 ((y : Int) + wrap64 (bt len8 (m : Int))) = ((y + blen m : Nat) : Int) := by
    intro m y hm hy
    have hb : blen m ≤ 8 := (z24 m 8).2 hm
    rw [len8_eq m hm, z22 (x := ((blen m : Nat) : Int)) (by omega) (by omega)]
    exact w64_add (by omega) (by omega)
  have e16 : wrap64 ((x : Int) + 16) = ((x + 16 : Nat) : Int) := by rw [z22 (by omega) (by omega)]; omega
  have e8 : wrap64 ((x : Int) + 8) = ((x + 8 : Nat) : Int) := by rw [z22 (by omega) (by omega)]; omega
  have e24 : wrap64 ((((x + 16 : Nat) : Int)) + 8) = ((x + 24 : Nat) : Int) := by rw [z22 (by omega) (by omega)]; omega
  refine Ev.step (fun k => by rw [zV.j0]) ?_
  by_cases c1 : (n : Int) ≥ 65536
  · refine Ev.pos c1 ?_
    have hb := z2k n 16 (by omega)
    have q1 : (n : Int) / 65536 = ((n / 2 ^ 16 : Nat) : Int) := by omega
    rw [q1, e16, e24]
    generalize hq : n / 2 ^ 16 = q at hb
    have hq16 : q < 65536 := by omega
    by_cases c2 : (q : Int) ≥ 256
    · refine Ev.pos c2 ?_
      have hb2 := z2k q 8 (by omega)
      have q2 : ((q : Int) / 256) % 256 = ((q / 2 ^ 8 : Nat) : Int) := by omega
      rw [q2]
      refine Ev.pos (Int.natCast_nonneg _) (Ev.pos (by omega) (Ev.ret' ?_))
      have := fin (q / 2 ^ 8) (x + 24) (by omega) (by omega)
      refine this.trans ?_
      omega
    · refine Ev.neg c2 ?_
      have q2 : (q : Int) % 256 = (q : Int) := by omega
      rw [q2]
      refine Ev.pos (Int.natCast_nonneg _) (Ev.pos (by omega) (Ev.ret' ?_))
      have := fin q (x + 16) (by omega) (by omega)
      refine this.trans ?_
      omega
  · refine Ev.neg c1 ?_
    by_cases c2 : (n : Int) ≥ 256
    · refine Ev.pos c2 ?_
      have hb2 := z2k n 8 (by omega)
      have q2 : ((n : Int) / 256) % 256 = ((n / 2 ^ 8 : Nat) : Int) := by omega
      rw [q2, e8]
      refine Ev.pos (Int.natCast_nonneg _) (Ev.pos (by omega) (Ev.ret' ?_))
      have := fin (n / 2 ^ 8) (x + 8) (by omega) (by omega)
      refine this.trans ?_
      omega
    · refine Ev.neg c2 ?_
      have q2 : (n : Int) % 256 = (n : Int) := by omega
      rw [q2]
      refine Ev.pos (Int.natCast_nonneg _) (Ev.pos (by omega) (Ev.ret' ?_))
      exact fin n x (by omega) (by omega)
theorem z54 (n : Nat) (hn : n < 2 ^ 64) : Ev (fun k => zV.f k (n : Int)) ((blen n : Nat) : Int) := by
  unfold zV.f
  by_cases c : (n : Int) ≥ 4294967296
  · refine Ev.pos c ?_
    have q1 : (n : Int) / 4294967296 = ((n / 2 ^ 32 : Nat) : Int) := by omega
    have hb := z2k n 32 (by omega)
    rw [q1, hb, Nat.add_comm]
    exact len_j0 (n / 2 ^ 32) (by omega) 32 (by decide)
  · refine Ev.neg c ?_
    have := len_j0 n (by omega) 0 (by decide)
    rw [Nat.zero_add] at this
    exact this
/-- The leading bit. -/
theorem z4Z (x : E) : Ev (fun k => z14.f k (hi x) (lo x)) (((blen (val x) : Nat) : Int) - 1) := by
  have h1 := hi_bd x
  have h2 := z5A x
  have hv := z3K x
  unfold z14.f
  obtain ⟨h, hh⟩ := Int.eq_ofNat_of_zero_le h1.1
  obtain ⟨l, hl⟩ := Int.eq_ofNat_of_zero_le h2.1
  rw [hh] at h1 hv ⊢
  rw [hl] at h2 hv ⊢
  rw [Int.toNat_natCast, Int.toNat_natCast] at hv
  by_cases c : (h : Int) = 0
  · refine Ev.pos c (Ev.bnd (z54 l (by omega)) (Ev.ret' ?_))
    have : val x = l := by omega
    rw [this]
    have hb : blen l ≤ 64 := (z24 l 64).2 (by omega)
    exact z22 (by omega) (by omega)
  · refine Ev.neg c (Ev.bnd (z54 h (by omega)) (Ev.ret' ?_))
    have hb : blen h ≤ 64 := (z24 h 64).2 (by omega)
    have hs := z2k (val x) 64 (by omega)
    have hd : val x / 2 ^ 64 = h := by omega
    rw [hd] at hs
    rw [hs, z22 (by omega) (by omega)]
    omega
/-- Do all elements have bits below n alone? -/
def InN (n : Nat) (X : List E) : Prop := ∀ x ∈ X, val x < 2 ^ n
instance (n : Nat) (X : List E) : Decidable (InN n X) := by unfold InN; infer_instance
theorem z2I (n : Nat) (hn : n ≤ 1000000) : ∀ (X : List E), Ev (fun k => zD.f k (X.map toS) (n : Int)) (decide (InN n X))
  | [] => by refine Ev.ret' ?_; symm; rw [decide_eq_true_eq]; intro x hx; cases hx
  | x :: xs => by
    show Ev (fun k => (zD.q.f k (n : Int) (toS x).f0 (toS x).f1).bind fun b => if b = true then zD.all k (n : Int) (xs.map toS) else some false) _
    have hq : Ev (fun k => zD.q.f k (n : Int) (hi x) (lo x)) (decide (val x < 2 ^ n)) := by
      unfold zD.q.f
      refine Ev.bnd (z4Z x) (Ev.ret' ?_)
      have := z24 (val x) n
      by_cases c : val x < 2 ^ n
      · have h2 := this.2 c
        rw [decide_eq_true c, decide_eq_false (show ¬ (((blen (val x) : Nat) : Int) - 1 ≥ (n : Int)) by omega)]; rfl
      · have h2 : ¬ blen (val x) ≤ n := fun h => c (this.1 h)
        rw [decide_eq_false c, decide_eq_true (show ((blen (val x) : Nat) : Int) - 1 ≥ (n : Int) by omega)]; rfl
    refine Ev.bnd hq ?_
    have hd : InN n (x :: xs) ↔ val x < 2 ^ n ∧ InN n xs := List.forall_mem_cons
    by_cases c : val x < 2 ^ n
    · refine Ev.pos (decide_eq_true c) ((z2I n hn xs).eqn ?_)
      rw [decide_eq_decide, hd]; exact ⟨fun h => ⟨c, h⟩, fun h => h.2⟩
    · refine Ev.neg (by simpa using c) (Ev.ret' ?_)
      symm; rw [decide_eq_false_iff_not, hd]; exact fun h => c h.1
theorem z43 (x : E) (n : Nat) (hn : n < 128) : Ev (fun k => z1d.f k (hi x) (lo x) (n : Int)) (hasB x n) := by
  unfold z1d.f
  exact Ev.bnd (z3J n hn) (Ev.ret' (hasBits x n hn))
/-- Bits turned about, as far as one has come. -/
def turnN (X : List E) (m j : Nat) : E := sumN (fun i => pick (hasB (X.getD i 0) j) (bitE i)) m
def turnL (X : List E) (n : Nat) : List E := tabL n (turnN X X.length)
theorem turn_l1 (n : Nat) (hn : n ≤ 128) (f : Nat → E) (z : E) (i : Nat) (hi128 : i < 128) (XS : List S35) (m : Int) {R : List S35 × Int}
    (h : Ev (fun k => zz.l0 k (n : Int) ((tabL n (fun q => f q + pick (hasB z q) (bitE i))).map toS) XS m (wrap64 ((i : Int) + 1))) R) :
    ∀ (d j : Nat), j + d = n → Ev (fun k => zz.l1 k (n : Int) ((tabL n (bitAdd f z (bitE i) j)).map toS) (i : Int) XS m (i : Int) (n : Int) (j : Int) (hi z) (lo z)) R := by
  intro d
  induction d with
  | zero =>
    intro j hj
    have : j = n := by omega
    subst this
    refine Ev.step (fun k => by rw [zz.l1]) (Ev.neg (Int.lt_irrefl _) ?_)
    rw [z2M _ (fun q hq => z5t f z (bitE i) j q hq)]
    exact h
  | succ d ih =>
    intro j hj
    have hj' : j < n := by omega
    have hih := ih (j + 1) (by omega)
    have hg : (tabL n (bitAdd f z (bitE i) j)).getD j 0 = f j := by rw [z28 _ _ j hj', z4B]
    have c3 : (j : Int) < (((tabL n (bitAdd f z (bitE i) j)).map toS).length : Int) := by rw [List.length_map, z1D]; omega
    refine Ev.step (fun k => by rw [zz.l1]) (Ev.pos (by omega) (Ev.bnd (z43 z j (by omega)) ?_))
    cases c : hasB z j with
    | true =>
      refine Ev.pos rfl (Ev.pos (Int.natCast_nonneg _) (Ev.pos c3 (Ev.bnd (z3J i hi128) ?_)))
      simp only [rdS, hg, z45, z46]
      refine Ev.bnd0 (Add_eq _ _) ?_
      have e : ((tabL n (bitAdd f z (bitE i) j)).map toS).set (j : Int).toNat (⟨hi (f j + bitE i), lo (f j + bitE i)⟩ : S35) = (tabL n (bitAdd f z (bitE i) (j + 1))).map toS := by
        rw [Int.toNat_natCast, toS_mk, map_set]
        have hn2 := z3Y f z (bitE i) j
        rw [c, z1y] at hn2
        rw [← hn2, tabL_set _ _ _ j hj' (fun q _ hne => z3u f z (bitE i) j q hne)]
      simp only [e, z1G hj' (show n ≤ 4611686018427387904 by omega)]
      exact hih
    | false =>
      refine Ev.neg Bool.false_ne_true ?_
      have e : tabL n (bitAdd f z (bitE i) (j + 1)) = tabL n (bitAdd f z (bitE i) j) := by
        apply z2M
        intro q _
        by_cases cq : q = j
        · subst cq; rw [z3Y, c, z1l, add_zero, z4B]
        · exact z3u f z (bitE i) j q cq
      rw [z1G hj' (by omega), ← e]; exact hih
theorem turn_l0 (X : List E) (hX : X.length ≤ 128) (n : Nat) (hn : n ≤ 128) : ∀ (d i : Nat), i + d = X.length →
    Ev (fun k => zz.l0 k (n : Int) ((tabL n (turnN X i)).map toS) (X.map toS) (X.length : Int) (i : Int)) ((turnL X n).map toS, 0) := by
  intro d
  induction d with
  | zero =>
    intro i hid
    have : i = X.length := by omega
    subst this
    refine Ev.step (fun k => by rw [zz.l0]) ?_
    exact Ev.neg (Int.lt_irrefl _) (Ev.ret _)
  | succ d ih =>
    intro i hid
    have hi' : i < X.length := by omega
    have hih := ih (i + 1) (by omega)
    have c3 : (i : Int) < ((X.map toS).length : Int) := by rw [List.length_map]; omega
    refine Ev.step (fun k => by rw [zz.l0]) (Ev.pos (by omega) (Ev.pos (Int.natCast_nonneg _) (Ev.pos c3 ?_)))
    simp only [rdS, z45, z46]
    have e0 : tabL n (turnN X i) = tabL n (bitAdd (turnN X i) (X.getD i 0) (bitE i) 0) := z2M _ (fun q _ => (z4W _ _ _ q).symm)
    rw [e0]
    refine turn_l1 n hn (turnN X i) (X.getD i 0) i (by omega) _ _ ?_ n 0 (Nat.zero_add _)
    rw [z1G hi' (by omega)]
    have e1 : tabL n (fun q => turnN X i q + pick (hasB (X.getD i 0) q) (bitE i)) = tabL n (turnN X (i + 1)) := z2M _ (fun q _ => by
      show _ = sumN _ (i + 1)
      rw [sumN]; rfl)
    rw [e1]
    exact hih
theorem Turn_ev (X : List E) (hX : X.length ≤ 128) (n : Nat) (hn : n ≤ 128) (hin : InN n X) : Ev (fun k => zz.f k (X.map toS) (n : Int)) ((turnL X n).map toS, 0) := by
  unfold zz.f
  rw [List.length_map]
  refine Ev.neg (by omega) (Ev.neg (by omega) ?_)
  rw [decide_eq_false (show ¬ ((n : Int) > 128) by omega)]
  refine Ev.step (fun k => by rw [zz.j0]) (Ev.neg (by decide) (Ev.bnd (z2I n (by omega) X) ?_))
  refine Ev.pos (decide_eq_true hin) ?_
  refine Ev.pos (Int.natCast_nonneg _) ?_
  refine Ev.pos (show ((n : Nat) : Int).toNat ≤ 17592186044416 by rw [Int.toNat_natCast]; omega) ?_
  rw [List.length_map, Int.toNat_natCast, rep_zero, z3Q]
  have e0 : tabL n (fun _ => (0 : E)) = tabL n (turnN X 0) := rfl
  rw [e0]
  exact turn_l0 X hX n hn X.length 0 (Nat.zero_add _)
end Go.Proofs.Ytnhbdhgbmjcjdaa.Sp
namespace Go.Proofs.Ytnhbdhgbmjcjdaa.P
open Go.RowKit Go.Proofs.YtnhbdhgbmjcjdaaW.PrintWords Go.Proofs.YtnhbdhgbmjcjdaaW.PrintLast Go.Proofs.YtnhbdhgbmjcjdaaW.PrintMore
attribute [local go_sem] z10 z12 z1h z1i zQ zR z11 z13   -- for this text's walks alone
set_option linter.unusedVariables false
set_option linter.unusedSimpArgs false
mutual
def zk.j0 : Nat → List (S38) → Int → List (S38) → Bool → Option ((List (S38)) × Int)
 | 0,_,_,_,_=>none
 | k + 1,x0,x1,x6,x20=>if x20 = true then (some (([] : List (S38)),1)) else ((zr.f k x0 x1).bind fun t101=>(if t101 = true then (zk.l0 k x0 x1 x6 0) else (some (([] : List (S38)),6))))
def zk.l0 : Nat → List (S38) → Int → List (S38) → Int → Option ((List (S38)) × Int)
 | 0,_,_,_,_=>none
 | k + 1,x0,x1,x6,x7=>if x7 < x1 then (zk.l1 k x0 x1 x6 x7 0 0 0) else (some (x6,0))
def zk.l1 : Nat → List (S38) → Int → List (S38) → Int → Int → Int → Int → Option ((List (S38)) × Int)
 | 0,_,_,_,_,_,_,_=>none
 | k + 1,x0,x1,x6,x7,x9,x103000,x103001=>if x9 < (x0.length : Int) then (if 0 ≤ x9 then ((zv.f k ((z1r x0 x9).f0) ((z1r x0 x9).f1) x7).bind fun t107=>(if t107 = true then ((zy.f k x9).bind fun bt108=>((z1f.f x103000 x103001 bt108.1 bt108.2).bind fun bt110=>(zk.l1 k x0 x1 x6 x7 (wrap64 (x9 + 1)) bt110.1 bt110.2))) else (zk.l1 k x0 x1 x6 x7 (wrap64 (x9 + 1)) x103000 x103001))) else (none)) else (if x6.length < 8796093022208 then (zk.l0 k x0 x1 (x6 ++ [(⟨x103000,x103001⟩ : S38)]) (wrap64 (x7 + 1))) else (none))
end
def zk.f (k : Nat) (l0 : List (S38)) (a1 : Int) : Option ((List (S38)) × Int):=if (l0.length : Int) > 128 then (zk.j0 k l0 a1 ([] : List (S38)) true) else (if a1 < 0 then (zk.j0 k l0 a1 ([] : List (S38)) true) else (zk.j0 k l0 a1 ([] : List (S38)) (decide (a1 > 128))))
theorem zk.zY : ∀ k,(∀ y0 y1 y2 y3,LeO (zk.j0 k y0 y1 y2 y3) (zk.j0 (k + 1) y0 y1 y2 y3)) ∧ (∀ y0 y1 y2 y3,LeO (zk.l0 k y0 y1 y2 y3) (zk.l0 (k + 1) y0 y1 y2 y3)) ∧ (∀ y0 y1 y2 y3 y4 y5 y6,LeO (zk.l1 k y0 y1 y2 y3 y4 y5 y6) (zk.l1 (k + 1) y0 y1 y2 y3 y4 y5 y6))
 | 0=>⟨fun _ _ _ _ r h=>by simp [zk.j0] at h,fun _ _ _ _ r h=>by simp [zk.l0] at h,fun _ _ _ _ _ _ _ r h=>by simp [zk.l1] at h⟩
 | k + 1=>by
  obtain ⟨ih0,ih1,ih2⟩:=zk.zY k
  refine ⟨?_,?_,?_⟩
  · intro y0 y1 y2 y3
    unfold zk.j0
    repeat' first
    | (with_reducible exact ih0 _ _ _ _)
    | (with_reducible exact ih1 _ _ _ _)
    | (with_reducible exact ih2 _ _ _ _ _ _ _)
    | (with_reducible exact zy.mono _ _)
    | (with_reducible exact zv.mono _ _ _ _)
    | (with_reducible exact zr.mono _ _ _)
    | (with_reducible exact LeO.refl _)
    | (with_reducible exact LeO.none _)
    | (with_reducible refine LeO.ite ?_ ?_)
    | (with_reducible refine LeO.bind ?_ (fun _=>?_))
    | exact ih0 _ _ _ _
    | exact ih1 _ _ _ _
    | exact ih2 _ _ _ _ _ _ _
    | exact zy.mono _ _
    | exact zv.mono _ _ _ _
    | exact zr.mono _ _ _
    | exact LeO.none _
    | refine LeO.ite ?_ ?_
    | refine LeO.bind ?_ (fun _=>?_)
  · intro y0 y1 y2 y3
    unfold zk.l0
    repeat' first
    | (with_reducible exact ih0 _ _ _ _)
    | (with_reducible exact ih1 _ _ _ _)
    | (with_reducible exact ih2 _ _ _ _ _ _ _)
    | (with_reducible exact zy.mono _ _)
    | (with_reducible exact zv.mono _ _ _ _)
    | (with_reducible exact zr.mono _ _ _)
    | (with_reducible exact LeO.refl _)
    | (with_reducible exact LeO.none _)
    | (with_reducible refine LeO.ite ?_ ?_)
    | (with_reducible refine LeO.bind ?_ (fun _=>?_))
    | exact ih0 _ _ _ _
    | exact ih1 _ _ _ _
    | exact ih2 _ _ _ _ _ _ _
    | exact zy.mono _ _
    | exact zv.mono _ _ _ _
    | exact zr.mono _ _ _
    | exact LeO.none _
    | refine LeO.ite ?_ ?_
    | refine LeO.bind ?_ (fun _=>?_)
  · intro y0 y1 y2 y3 y4 y5 y6
    unfold zk.l1
    repeat' first
    | (with_reducible exact ih0 _ _ _ _)
    | (with_reducible exact ih1 _ _ _ _)
    | (with_reducible exact ih2 _ _ _ _ _ _ _)
    | (with_reducible exact zy.mono _ _)
    | (with_reducible exact zv.mono _ _ _ _)
    | (with_reducible exact zr.mono _ _ _)
    | (with_reducible exact LeO.refl _)
    | (with_reducible exact LeO.none _)
    | (with_reducible refine LeO.ite ?_ ?_)
    | (with_reducible refine LeO.bind ?_ (fun _=>?_))
    | exact ih0 _ _ _ _
    | exact ih1 _ _ _ _
    | exact ih2 _ _ _ _ _ _ _
    | exact zy.mono _ _
    | exact zv.mono _ _ _ _
    | exact zr.mono _ _ _
    | exact LeO.none _
    | refine LeO.ite ?_ ?_
    | refine LeO.bind ?_ (fun _=>?_)
theorem zk.mono : ∀ a0 a1 k,LeO (zk.f k a0 a1) (zk.f (k + 1) a0 a1):=by
 intro a0 a1 k
 obtain ⟨ih0,ih1,ih2⟩:=zk.zY k
 unfold zk.f
 repeat' first
  | (with_reducible exact ih0 _ _ _ _)
  | (with_reducible exact ih1 _ _ _ _)
  | (with_reducible exact ih2 _ _ _ _ _ _ _)
  | (with_reducible exact zy.mono _ _)
  | (with_reducible exact zv.mono _ _ _ _)
  | (with_reducible exact zr.mono _ _ _)
  | (with_reducible exact LeO.refl _)
  | (with_reducible exact LeO.none _)
  | (with_reducible refine LeO.ite ?_ ?_)
  | (with_reducible refine LeO.bind ?_ (fun _=>?_))
  | exact ih0 _ _ _ _
  | exact ih1 _ _ _ _
  | exact ih2 _ _ _ _ _ _ _
  | exact zy.mono _ _
  | exact zv.mono _ _ _ _
  | exact zr.mono _ _ _
  | exact LeO.none _
  | refine LeO.ite ?_ ?_
  | refine LeO.bind ?_ (fun _=>?_)
set_option maxHeartbeats 8000000 in
set_option maxRecDepth 100000 in
theorem zk.calls (k : Nat) (A0 : Option Addr) (c0 : Nat) (l0 : List (S38)) (a1 : Int) (r1 : List (S38)) (r2 : Int) (w : World) (hr0 : Kd.C k38 w A0 l0.length l0) (hc0 : l0.length ≤ c0) (h : zk.f k l0 a1 = some (r1,r2)) :
 Calls Try.prog 12 #[.slice A0 l0.length c0,.int .i64 a1] w fun e w'=>∃ v0_ : Value,e = .returned (.tuple #[v0_,.int .i64 r2]) ∧ Kd.R k38 38 w' w.heap.size (fun _=>True) v0_ r1 ∧ Below w.heap.size w w':=by
 have hu38:=Try.underlying38
 have HR0:=z1.mk hr0
 have HC0:=z1.mk hc0
 clear hr0 hc0
 have HB:=z1.mk (Below.refl w.heap.size w)
 have H : (if (l0.length : Int) > 128 then (zk.j0 k l0 a1 ([] : List (S38)) true) else (if a1 < 0 then (zk.j0 k l0 a1 ([] : List (S38)) true) else (zk.j0 k l0 a1 ([] : List (S38)) (decide (a1 > 128))))) = some (r1,r2):=h
 clear h
 have HC3:=z1.mk H
 clear H
 go_enter Try.func12,Try.ntmps12
 go_upto_region 2 with (fail)
 go_cut [20] (fun v20 wc=>∃ (kq : Nat) (x20_2 : Bool),v20 = .bool x20_2 ∧ z1 (zk.j0 kq l0 a1 ([] : List (S38)) x20_2 = some (r1,r2)) ∧ z1 (kq ≤ k) ∧ z1 (Kd.R k38 38 wc w.heap.size (fun _=>True) (.slice none 0 0) ([] : List (S38))) ∧ z1 (Below w.heap.size w wc))
 case first =>
  have H:=HC3.out
  clear HC3
  by_cases c4 : (l0.length : Int) > 128
  · rw [if_pos c4] at H
    have c4b0 : decide (128 < (l0.length : Int)) = true:=decide_eq_true c4
    have c4b1 : decide (128 < l0.length) = true:=decide_eq_true zz86
    clear c4
    (first|rw [c4b0]|(simp only [zH,zI];rw [c4b0])|skip)
    have H':=z1.mk H
    clear H
    go_wp2
    go_meet
    case rel=>exact ⟨_,(true),zz82,H',⟨by first|omega|exact Nat.le_refl _⟩,⟨by first|exact Kd.z2e _ _ _ _ _|exact Kd.z2t _ _ _ _ _|exact Kd.z2w _ _ _ _ _|exact Kd.z2u _ _ _ _ _|exact Kd.z2v _ _ _ _ _⟩,⟨by repeat (first|(with_reducible first|exact HB.out|apply zd|apply z3|apply zc)|exact HB.out)⟩⟩
  rw [if_neg c4] at H
  have c4b0 : decide (128 < (l0.length : Int)) = false:=decide_eq_false c4
  have c4b1 : decide (128 < l0.length) = false:=decide_eq_false zz86
  clear c4
  (first|rw [c4b0]|(simp only [zH,zI];rw [c4b0])|skip)
  by_cases c5 : a1 < 0
  rotate_left
  · rw [if_neg c5] at H
    have c5b0 : decide (a1 < 0) = false:=decide_eq_false c5
    clear c5
    have H':=z1.mk H
    clear H
    go_wp2
    go_meet
    case rel=>exact ⟨_,(decide (a1 > 128)),zz82,H',⟨by first|omega|exact Nat.le_refl _⟩,⟨by first|exact Kd.z2e _ _ _ _ _|exact Kd.z2t _ _ _ _ _|exact Kd.z2w _ _ _ _ _|exact Kd.z2u _ _ _ _ _|exact Kd.z2v _ _ _ _ _⟩,⟨by repeat (first|(with_reducible first|exact HB.out|apply zd|apply z3|apply zc)|exact HB.out)⟩⟩
  rw [if_pos c5] at H
  have c5b0 : decide (a1 < 0) = true:=decide_eq_true c5
  clear c5
  have H':=z1.mk H
  clear H
  go_wp2
  go_meet
  case rel=>exact ⟨_,(true),zz82,H',⟨by first|omega|exact Nat.le_refl _⟩,⟨by first|exact Kd.z2e _ _ _ _ _|exact Kd.z2t _ _ _ _ _|exact Kd.z2w _ _ _ _ _|exact Kd.z2u _ _ _ _ _|exact Kd.z2v _ _ _ _ _⟩,⟨by repeat (first|(with_reducible first|exact HB.out|apply zd|apply z3|apply zc)|exact HB.out)⟩⟩
 case rest =>
  clear HC3
  (try clear c1);(try clear p2);(try clear c4);(try clear c4b0);(try clear c4b1);(try clear c5);(try clear c5b0)
  obtain ⟨kq,x20_2,rfl,HA,HJ2,HO_6,HB⟩:=hcut
  cases kq with
  | zero=>exact absurd HA.out (by simp [zk.j0])
  | succ kj2 =>
   have H:=HA.out
   clear HA
   simp only [zk.j0] at H
   by_cases c6 : x20_2 = true
   · subst c6
     have H1 : (some (([] : List (S38)),1)) = some (r1,r2):=by rw [if_pos rfl] at H;exact H
     clear H
     have H:=H1
     clear H1
     simp only [Option.some.injEq,Prod.mk.injEq] at H
     obtain ⟨rfl,rfl⟩:=H
     go_wp2
     go_ret2
     exact ⟨_,by first|rfl|(simp [zi,zj] <;> rfl)|(simp [*,zi,zj] <;> rfl),by first|exact Kd.z2e _ _ _ _ _|exact Kd.z2t _ _ _ _ _|exact Kd.z2w _ _ _ _ _|exact Kd.z2u _ _ _ _ _|exact Kd.z2v _ _ _ _ _,by repeat (first|(with_reducible first|exact HB.out|apply zd|apply z3|apply zc)|exact HB.out)⟩
   replace c6:=Bool.eq_false_iff.mpr c6
   subst c6
   have H1 : ((zr.f kj2 l0 a1).bind fun t101=>(if t101 = true then (zk.l0 kj2 l0 a1 ([] : List (S38)) 0) else (some (([] : List (S38)),6)))) = some (r1,r2):=by rw [if_neg (show ¬ (false = true) by decide)] at H;exact H
   clear H
   have H:=H1
   clear H1
   replace H:=Option.bind_eq_some_iff.mp H
   obtain ⟨t101,A70,H⟩:=H
   replace H : (if t101 = true then (zk.l0 kj2 l0 a1 ([] : List (S38)) 0) else (some (([] : List (S38)),6))) = some (r1,r2):=H
   have A7:=z1.mk A70
   clear A70
   by_cases c8 : t101 = true
   rotate_left
   · replace c8:=Bool.eq_false_iff.mpr c8
     subst c8
     have H1 : (some (([] : List (S38)),6)) = some (r1,r2):=by rw [if_neg (show ¬ (false = true) by decide)] at H;exact H
     clear H
     have H:=H1
     clear H1
     simp only [Option.some.injEq,Prod.mk.injEq] at H
     obtain ⟨rfl,rfl⟩:=H
     go_wp2_with (first|((with_reducible refine zo (f:=45) rfl ?_);refine goesL_ (some 23) rfl rfl Try.func45 zz84 rfl #[.slice A0 l0.length c0,.int .i64 a1] rfl zz45 ?_;(with_reducible refine (zr.calls kj2 _ _ l0 a1 false _ ?side1 ?side2 A7.out).mono ?_);(case side1=>repeat (first|exact (Kd.z1A HR0.out HB.out)|(with_reducible refine Kd.z15 ?_ _)|(with_reducible refine Kd.z16 ?_ _)|(with_reducible refine Kd.z1m ?_)));(case side2=>exact HC0.out);rintro e w28 ⟨rfl,hb⟩;refine ⟨_,rfl,?_⟩;have n0_:=z1.mk (Kd.zs zz74 hb);have n1_:=z1.mk (ze zz47 hb);clear HO_6;clear HB;have HO_6:=n0_;have HB:=n1_;clear n0_ n1_;(try clear hb);(try clear hb2);(try clear hk);(try clear hi)))
     go_ret2
     exact ⟨_,by first|rfl|(simp [zi,zj] <;> rfl)|(simp [*,zi,zj] <;> rfl),by first|exact Kd.z2e _ _ _ _ _|exact Kd.z2t _ _ _ _ _|exact Kd.z2w _ _ _ _ _|exact Kd.z2u _ _ _ _ _|exact Kd.z2v _ _ _ _ _,by repeat (first|(with_reducible first|exact HB.out|apply zd|apply z3|apply zc)|exact HB.out)⟩
   subst c8
   have H1 : (zk.l0 kj2 l0 a1 ([] : List (S38)) 0) = some (r1,r2):=by rw [if_pos rfl] at H;exact H
   clear H
   have H:=H1
   clear H1
   have H':=z1.mk H
   clear H
   go_wp2_with (first|((with_reducible refine zo (f:=45) rfl ?_);refine goesL_ (some 23) rfl rfl Try.func45 zz84 rfl #[.slice A0 l0.length c0,.int .i64 a1] rfl zz45 ?_;(with_reducible refine (zr.calls kj2 _ _ l0 a1 true _ ?side1 ?side2 A7.out).mono ?_);(case side1=>repeat (first|exact (Kd.z1A HR0.out HB.out)|(with_reducible refine Kd.z15 ?_ _)|(with_reducible refine Kd.z16 ?_ _)|(with_reducible refine Kd.z1m ?_)));(case side2=>exact HC0.out);rintro e w9 ⟨rfl,hb⟩;refine ⟨_,rfl,?_⟩;have n0_:=z1.mk (Kd.zs zz74 hb);have n1_:=z1.mk (ze zz47 hb);clear HO_6;clear HB;have HO_6:=n0_;have HB:=n1_;clear n0_ n1_;(try clear hb);(try clear hb2);(try clear hk);(try clear hi)))
   go_loopg [6,7] kj2 (fun kq v6 v7 w'=>∃ (x6_2 : List (S38)) (x7_2 : Int),v7 = .int .i64 x7_2 ∧ z1 (zk.l0 kq l0 a1 x6_2 x7_2 = some (r1,r2)) ∧ z1 (kq ≤ kj2) ∧ z1 (Kd.R k38 38 w' w.heap.size (fun _=>True) v6 x6_2) ∧ z1 (Below w.heap.size w w'))
   case atStart=>exact ⟨(([] : List (S38))),(0),zz82,H',⟨Nat.le_refl _⟩,⟨by (with_reducible repeat (first|apply Kd.zL|apply Kd.zM|apply Kd.zS));exact HO_6.out⟩,⟨by repeat (first|(with_reducible first|exact HB.out|apply zd|apply z3|apply zc)|exact HB.out)⟩⟩
   case round =>
    clear H'
    (try clear c1);(try clear p2);(try clear c4);(try clear c4b0);(try clear c4b1);(try clear c5);(try clear c5b0);(try clear c6);(try clear c8);(try clear p2)
    obtain ⟨x6_2,x7_2,rfl,HA,HK2,HO_6,HB⟩:=hrel
    cases gk with
    | zero=>exact absurd HA.out (by simp [zk.l0])
    | succ k2 =>
     have H:=HA.out
     clear HA
     simp only [zk.l0] at H
     by_cases c10 : x7_2 < a1
     rotate_left
     · rw [if_neg c10] at H
       have c10b0 : decide (x7_2 < a1) = false:=decide_eq_false c10
       clear c10
       simp only [Option.some.injEq,Prod.mk.injEq] at H
       obtain ⟨rfl,rfl⟩:=H
       go_wp2
       go_ret2
       exact ⟨_,by first|rfl|(simp [zi,zj] <;> rfl)|(simp [*,zi,zj] <;> rfl),by (with_reducible repeat (first|apply Kd.zL|apply Kd.zM|apply Kd.zS));exact HO_6.out,by repeat (first|(with_reducible first|exact HB.out|apply zd|apply z3|apply zc)|exact HB.out)⟩
     rw [if_pos c10] at H
     have c10b0 : decide (x7_2 < a1) = true:=decide_eq_true c10
     clear c10
     have H':=z1.mk H
     clear H
     go_wp2_with (first|((with_reducible refine zE (N:=8) rfl ?_);refine zC ?hg (N:=8) ?hd (cs:=#[.int .u64 0,.int .u64 0]) (t:=38) ?hr ?_;(case hd=>rfl);(case hg=>rfl);(case hr=>first|(go_simp;done)|(go_simp;rfl));intro gb102 hg w11 hbox hb;have n0_:=z1.mk (Kd.zs (Kd.z1B zz74 gb102 (Nat.le_of_eq hg.symm)) hb);have n1_:=z1.mk (ze zz47 hb);have n2_:=z1.mk (hbox);have n3_:=z1.mk ((by rw [hg];exact (zf zz47) : w.heap.size ≤ gb102));have n4_:=z1.mk ((by rw [hg];exact (zf zz47) : w.heap.size ≤ gb102));clear HO_6;clear HB;have HO_6:=n0_;have HB:=n1_;have BK102:=n2_;have GW102:=n3_;have GE102:=n4_;clear n0_ n1_ n2_ n3_ n4_;clear hb hbox hg))
     go_loopg [9] k2 (fun kq v9 w'=>∃ (x9_3 : Int) (x103000_3 : Int) (x103001_3 : Int),v9 = .int .i64 x9_3 ∧ z1 (zk.l1 kq l0 a1 x6_2 x7_2 x9_3 x103000_3 x103001_3 = some (r1,r2)) ∧ z1 (kq ≤ k2) ∧ z1 (Kd.R k38 38 w' w.heap.size (fun k_=>k_ ≠ gb102) u6 x6_2) ∧ z1 (w'.heap[gb102]? = some (.cells #[.int .u64 x103000_3,.int .u64 x103001_3] 38 (0,0))) ∧ z1 (Below w.heap.size w w'))
     case atStart=>exact ⟨(0),(0),(0),zz82,H',⟨Nat.le_refl _⟩,⟨by (with_reducible repeat (first|apply Kd.zL|apply Kd.zM|apply Kd.zS));exact Kd.z1j HO_6.out (fun _ hk=>hk.2)⟩,⟨by (with_reducible repeat (first|refine z8 ?_ _|refine zb ?_|refine z7 ?_ _));exact BK102.out⟩,⟨by repeat (first|(with_reducible first|exact HB.out|apply zd|apply z3|apply zc|refine za ?_ GE102.out)|exact HB.out)⟩⟩
     case round =>
      clear H'
      (try clear c1);(try clear p2);(try clear c4);(try clear c4b0);(try clear c4b1);(try clear c5);(try clear c5b0);(try clear c6);(try clear c8);(try clear c10);(try clear c10b0);(try clear p2)
      obtain ⟨x9_3,x103000_3,x103001_3,rfl,HA,HK3,HO_6,BK102,HB⟩:=hrel
      cases gk with
      | zero=>exact absurd HA.out (by simp [zk.l1])
      | succ k3 =>
       have H:=HA.out
       clear HA
       simp only [zk.l1] at H
       by_cases c12 : x9_3 < (l0.length : Int)
       rotate_left
       · rw [if_neg c12] at H
         have c12b0 : decide (x9_3 < (l0.length : Int)) = false:=decide_eq_false c12
         clear c12
         by_cases c25 : x6_2.length < 8796093022208
         rotate_left
         · rw [if_neg c25] at H
           exact absurd H zz87
         rw [if_pos c25] at H
         have LMc25:=z1.mk c25
         clear c25
         obtain ⟨y103,hy103⟩ : ∃ y_ : List (S38),y_ = (x6_2 ++ [(⟨x103000_3,x103001_3⟩ : S38)]):=⟨_,rfl⟩
         replace H : (zk.l0 k3 l0 a1 y103 (wrap64 (x7_2 + 1))) = some (r1,r2):=by first|(rw [hy103];with_reducible exact H)|(have H2_:=(Option.bind_some _ _).symm.trans H;rw [hy103];with_reducible exact H2_)|(have H2_:=(Option.bind_some _ _).symm.trans H;with_reducible exact H2_)|with_reducible exact H|(rw [hy103];exact H)|exact H
         have Ny103:=z1.mk hy103
         clear hy103
         have H':=z1.mk H
         clear H
         have hcz26_0 : wr.cell? ⟨gb102,0,none⟩ = some (.int .u64 x103000_3):=(z5 BK102.out 0).trans rfl
         have hcz26_1 : wr.cell? ⟨gb102,1,none⟩ = some (.int .u64 x103001_3):=(z5 BK102.out 1).trans rfl
         have hfz26_0:=z4 BK102.out 0
         have hfz26_1:=z4 BK102.out 1
         go_wp2_with (first|((with_reducible refine z1H (b:=.append) (xs:=#[.tmp 46,.tmp 48]) rfl ?_);at_builtin;refine Kd.z2b k38 (w0:=w) w.heap.size rfl (.tmp 46) (.tmp 48) 27 38 (.agg #[(.int .u64 0),(.int .u64 0)]) 16 rfl Try.underlying27 info38 rfl zz85 zz86 u6 x6_2 (⟨x103000_3,x103001_3⟩ : S38) [.int .u64 x103000_3,.int .u64 x103001_3] (fun k_=>k_ ≠ gb102) (fun _=>False) rfl rfl ?aP (fun _ hk=>hk.elim) ?aF ?aO ?aB ?aS ?aL ?_;(case aP=>exact z4Y _ _ _ (⟨x103000_3,x103001_3⟩ : S38));(case aB=>exact zz43);(case aF=>exact (fun k_ hk=>Kd.freshB (g:=gb102) (o:=.cells #[.int .u64 x103000_3,.int .u64 x103001_3] 38 (0,0)) zz50 k_ hk));(case aO=>exact zz74);(case aS=>exact (zf zz43));(case aL=>have:=LMc25.out;omega);intro v104 w27 ho hb hg hat;rw [← Ny103.out] at ho;have n0_:=z1.mk (z26 (g:=gb102) (o:=.cells #[.int .u64 x103000_3,.int .u64 x103001_3] 38 (0,0)) zz50 hg (Kd.z2y HO_6.out (fun _ hk=>hk)));have n1_:=z1.mk (hb);have n2_:=z1.mk (ho);clear BK102;clear HB;clear HO_6;have BK102:=n0_;have HB:=n1_;have HO105:=n2_;clear n0_ n1_ n2_;clear ho hb hg hat))
         go_roundg k3
         case measure=>have:=HJ2.out;have:=HK2.out;have:=HK3.out;omega
         case rel=>exact ⟨(y103),(wrap64 (x7_2 + 1)),zz82,H',⟨by have:=HJ2.out;have:=HK2.out;have:=HK3.out;omega⟩,⟨by (with_reducible repeat (first|apply Kd.zL|apply Kd.zM|apply Kd.zS));exact Kd.z1j HO105.out (fun _ hk=>trivial)⟩,⟨by repeat (first|(with_reducible first|exact HB.out|apply zd|apply z3|apply zc|refine za ?_ GE102.out)|exact HB.out)⟩⟩
       rw [if_pos c12] at H
       have c12b0 : decide (x9_3 < (l0.length : Int)) = true:=decide_eq_true c12
       clear c12
       by_cases c13 : 0 ≤ x9_3
       rotate_left
       · rw [if_neg c13] at H
         exact absurd H zz87
       rw [if_pos c13] at H
       have c13b0 : decide (0 ≤ x9_3) = true:=decide_eq_true c13
       clear c13
       replace H:=Option.bind_eq_some_iff.mp H
       obtain ⟨t107,A140,H⟩:=H
       replace H : (if t107 = true then ((zy.f k3 x9_3).bind fun bt108=>((z1f.f x103000_3 x103001_3 bt108.1 bt108.2).bind fun bt110=>(zk.l1 k3 l0 a1 x6_2 x7_2 (wrap64 (x9_3 + 1)) bt110.1 bt110.2))) else (zk.l1 k3 l0 a1 x6_2 x7_2 (wrap64 (x9_3 + 1)) x103000_3 x103001_3)) = some (r1,r2):=H
       have A14:=z1.mk A140
       clear A140
       by_cases c15 : t107 = true
       rotate_left
       · replace c15:=Bool.eq_false_iff.mpr c15
         subst c15
         have H1 : (zk.l1 k3 l0 a1 x6_2 x7_2 (wrap64 (x9_3 + 1)) x103000_3 x103001_3) = some (r1,r2):=by rw [if_neg (show ¬ (false = true) by decide)] at H;exact H
         clear H
         have H:=H1
         clear H1
         have H':=z1.mk H
         clear H
         have p106 : 0 ≤ (x9_3 : Int):=of_decide_eq_true zz81
         have q106 : x9_3 < (l0.length : Int):=of_decide_eq_true zz81
         obtain ⟨ad106,e106,hx106_0,hx106_1⟩:=z3b HR0.out x9_3 p106 q106
         cases e106
         replace hx106_0:=(HB.out.cell (World.block_lt_of_cell? w _ hx106_0)).trans hx106_0
         replace hx106_1:=(HB.out.cell (World.block_lt_of_cell? w _ hx106_1)).trans hx106_1
         replace p106:=eq_true p106
         replace q106:=eq_true q106
         go_wp2_with (first|((with_reducible refine zo (f:=46) rfl ?_);refine goesL_ (some 41) rfl rfl Try.func46 zz84 rfl #[.agg #[.int .u64 ((z1r l0 x9_3).f0),.int .u64 ((z1r l0 x9_3).f1)],.int .i64 x7_2] rfl zz45 ?_;(with_reducible refine (zv.calls k3 ((z1r l0 x9_3).f0) ((z1r l0 x9_3).f1) x7_2 false _ A14.out).mono ?_);rintro e w24 ⟨rfl,hb⟩;refine ⟨_,rfl,?_⟩;have n0_:=z1.mk (Kd.zs zz74 hb);have n1_:=z1.mk (z9 (g:=gb102) (o:=.cells #[.int .u64 x103000_3,.int .u64 x103001_3] 38 (0,0)) zz50 hb);have n2_:=z1.mk (ze zz43 hb);clear HO_6;clear BK102;clear HB;have HO_6:=n0_;have BK102:=n1_;have HB:=n2_;clear n0_ n1_ n2_;(try clear hb);(try clear hb2);(try clear hk);(try clear hi)))
         go_roundg k3
         case measure=>have:=HJ2.out;have:=HK2.out;have:=HK3.out;omega
         case rel=>exact ⟨(wrap64 (x9_3 + 1)),(x103000_3),(x103001_3),zz82,H',⟨by have:=HJ2.out;have:=HK2.out;have:=HK3.out;omega⟩,⟨by (with_reducible repeat (first|apply Kd.zL|apply Kd.zM|apply Kd.zS));exact HO_6.out⟩,⟨by (with_reducible repeat (first|refine z8 ?_ _|refine zb ?_|refine z7 ?_ _));exact BK102.out⟩,⟨by repeat (first|(with_reducible first|exact HB.out|apply zd|apply z3|apply zc|refine za ?_ GE102.out)|exact HB.out)⟩⟩
       subst c15
       have H1 : ((zy.f k3 x9_3).bind fun bt108=>((z1f.f x103000_3 x103001_3 bt108.1 bt108.2).bind fun bt110=>(zk.l1 k3 l0 a1 x6_2 x7_2 (wrap64 (x9_3 + 1)) bt110.1 bt110.2))) = some (r1,r2):=by rw [if_pos rfl] at H;exact H
       clear H
       have H:=H1
       clear H1
       replace H:=Option.bind_eq_some_iff.mp H
       obtain ⟨⟨t108,t109⟩,A160,H⟩:=H
       replace H : ((z1f.f x103000_3 x103001_3 t108 t109).bind fun bt110=>(zk.l1 k3 l0 a1 x6_2 x7_2 (wrap64 (x9_3 + 1)) bt110.1 bt110.2)) = some (r1,r2):=H
       have A16:=z1.mk A160
       clear A160
       replace H:=Option.bind_eq_some_iff.mp H
       obtain ⟨⟨t110,t111⟩,A170,H⟩:=H
       replace H : (zk.l1 k3 l0 a1 x6_2 x7_2 (wrap64 (x9_3 + 1)) t110 t111) = some (r1,r2):=H
       have A17:=z1.mk A170
       clear A170
       have H':=z1.mk H
       clear H
       have p106 : 0 ≤ (x9_3 : Int):=of_decide_eq_true zz81
       have q106 : x9_3 < (l0.length : Int):=of_decide_eq_true zz81
       obtain ⟨ad106,e106,hx106_0,hx106_1⟩:=z3b HR0.out x9_3 p106 q106
       cases e106
       replace hx106_0:=(HB.out.cell (World.block_lt_of_cell? w _ hx106_0)).trans hx106_0
       replace hx106_1:=(HB.out.cell (World.block_lt_of_cell? w _ hx106_1)).trans hx106_1
       replace p106:=eq_true p106
       replace q106:=eq_true q106
       try go_wp2_with (first|((with_reducible refine zo (f:=46) rfl ?_);refine goesL_ (some 41) rfl rfl Try.func46 zz84 rfl #[.agg #[.int .u64 ((z1r l0 x9_3).f0),.int .u64 ((z1r l0 x9_3).f1)],.int .i64 x7_2] rfl zz45 ?_;(with_reducible refine (zv.calls k3 ((z1r l0 x9_3).f0) ((z1r l0 x9_3).f1) x7_2 true _ A14.out).mono ?_);rintro e w18 ⟨rfl,hb⟩;refine ⟨_,rfl,?_⟩;have n0_:=z1.mk (Kd.zs zz74 hb);have n1_:=z1.mk (z9 (g:=gb102) (o:=.cells #[.int .u64 x103000_3,.int .u64 x103001_3] 38 (0,0)) zz50 hb);have n2_:=z1.mk (ze zz43 hb);clear HO_6;clear BK102;clear HB;have HO_6:=n0_;have BK102:=n1_;have HB:=n2_;clear n0_ n1_ n2_;(try clear hb);(try clear hb2);(try clear hk);(try clear hi)))
       have n0_:=z1.mk (Kd.zS HO_6.out)
       have n1_:=z1.mk (zb BK102.out)
       have n2_:=z1.mk (zc HB.out)
       clear HO_6
       clear BK102
       clear HB
       have HO_6:=n0_
       have BK102:=n1_
       have HB:=n2_
       clear n0_ n1_ n2_
       refine start_ (n:=5) (S:=fun w'=>w'.cell? ⟨gb102,0,none⟩ = some (.int .u64 x103000_3) ∧ w'.cell? ⟨gb102,1,none⟩ = some (.int .u64 x103001_3)) (ds:=[4]) #[false,false,false,false,false] zz84 rfl rfl ⟨(z5 BK102.out 0).trans rfl,(z5 BK102.out 1).trans rfl⟩ (fun hHeld=>?_)
       generalize w18.drew = w19 at HO_6 BK102 HB hHeld ⊢
       refine pure_ (i:=1) (N:=some 43) (v:=?_) (a':=?_) #[false,true,false,false,false] rfl rfl zz84 (fun _ _ _ h=>h) (Or.inl ⟨by rfl,?_⟩) ?_ ?_
       rotate_left
       · intro w'
         go_simp
         with_reducible rfl
       rotate_left
       · simp only [Act.put,List.setIfInBounds_toArray,List.set_cons_zero,List.set_cons_succ,zH,zI]
         rfl
       refine take_ (i:=0) (N:=some 42) (v:=?_) (a':=?_) #[true,true,false,false,false] rfl rfl zz84 (fun _ _ _ h=>h) (Or.inl ⟨by rfl,?_⟩) hHeld ?_ ?_
       rotate_left
       · rintro w' ⟨s0,s1⟩
         go_simp
         with_reducible rfl
       rotate_left
       · simp only [Act.put,List.setIfInBounds_toArray,List.set_cons_zero,List.set_cons_succ,zH,zI]
         rfl
       refine one_ (i:=2) (N:=some 44) #[true,true,true,false,false] rfl rfl zz84 zz85 (fun K hK=>?_)
       refine goes_ Try.func48 zz84 rfl #[.int .i64 x9_3] zz88 rfl rfl zz45 ?_
       with_reducible refine (zy.calls k3 x9_3 t108 t109 _ A16.out).mono ?_
       rintro e w20 ⟨rfl,hb⟩
       refine ⟨_,rfl,?_⟩
       have n0_:=z1.mk (Kd.zs zz74 hb)
       have n1_:=z1.mk (z9 (g:=gb102) (o:=.cells #[.int .u64 x103000_3,.int .u64 x103001_3] 38 (0,0)) zz50 hb)
       have n2_:=z1.mk (ze zz43 hb)
       clear HO_6
       clear BK102
       clear HB
       have HO_6:=n0_
       have BK102:=n1_
       have HB:=n2_
       clear n0_ n1_ n2_
       (try clear hb)
       (try clear hb2)
       (try clear hk)
       (try clear hi)
       refine hK.out _ _ ⟨(z5 BK102.out 0).trans rfl,(z5 BK102.out 1).trans rfl⟩ (fun hHeld=>?_)
       clear hK K
       refine norm_ (a':=?_) ?_ ?_
       rotate_left
       · show Act.put _ (some 44) _ = _
         simp only [Act.put,List.setIfInBounds_toArray,List.set_cons_zero,List.set_cons_succ,zH,zI]
         rfl
       refine one_ (i:=3) (N:=some 45) #[true,true,true,true,false] rfl rfl zz84 zz85 (fun K hK=>?_)
       refine goes_ Try.func47 zz84 rfl #[.agg #[.int .u64 x103000_3,.int .u64 x103001_3],.agg #[.int .u64 t108,.int .u64 t109]] zz88 rfl rfl zz45 ?_
       with_reducible refine (z1f.calls x103000_3 x103001_3 t108 t109 t110 t111 _ A17.out).mono ?_
       rintro e w21 ⟨rfl,hb⟩
       refine ⟨_,rfl,?_⟩
       have n0_:=z1.mk (Kd.zs zz74 hb)
       have n1_:=z1.mk (z9 (g:=gb102) (o:=.cells #[.int .u64 x103000_3,.int .u64 x103001_3] 38 (0,0)) zz50 hb)
       have n2_:=z1.mk (ze zz43 hb)
       clear HO_6
       clear BK102
       clear HB
       have HO_6:=n0_
       have BK102:=n1_
       have HB:=n2_
       clear n0_ n1_ n2_
       (try clear hb)
       (try clear hb2)
       (try clear hk)
       (try clear hi)
       refine hK.out _ _ ⟨(z5 BK102.out 0).trans rfl,(z5 BK102.out 1).trans rfl⟩ (fun hHeld=>?_)
       clear hK K
       refine norm_ (a':=?_) ?_ ?_
       rotate_left
       · show Act.put _ (some 45) _ = _
         simp only [Act.put,List.setIfInBounds_toArray,List.set_cons_zero,List.set_cons_succ,zH,zI]
         rfl
       refine last_ (i:=4) (N:=none) #[true,true,true,true,true] rfl rfl zz84 zz85 (fun K hK=>?_)
       have hs22 : w21.cell? ⟨gb102,0,none⟩ = some (.int .u64 x103000_3):=(z5 BK102.out 0).trans rfl
       have hfs22:=z4 BK102.out 0
       have hs23 : w21.cell? ⟨gb102,1,none⟩ = some (.int .u64 x103001_3):=(z5 BK102.out 1).trans rfl
       have hfs23:=z4 BK102.out 1
       refine skip_ (w1:=?_) zz88 rfl ?_ ?_
       rotate_left
       · go_simp
         rfl
       refine hK.out _ _ ?_
       clear hK K
       refine done_ zz84 ?_
       try go_wp2
       go_roundg k3
       case measure=>have:=HJ2.out;have:=HK2.out;have:=HK3.out;omega
       case rel=>exact ⟨(wrap64 (x9_3 + 1)),(t110),(t111),zz82,H',⟨by have:=HJ2.out;have:=HK2.out;have:=HK3.out;omega⟩,⟨by (with_reducible repeat (first|apply Kd.zL|apply Kd.zM|apply Kd.zS));exact Kd.z1j (Kd.z1O (p:=⟨gb102,1,none⟩) (Kd.z1O (p:=⟨gb102,0,none⟩) (Kd.z1j HO_6.out (fun k_ hk=>(⟨hk,hk⟩ : _ ∧ k_ ≠ gb102))) (fun _ hk=>hk.2) (.int .u64 t110)) (fun _ hk=>hk.2) (.int .u64 t111)) (fun _ hk=>hk.1)⟩,⟨by (with_reducible repeat (first|refine z8 ?_ _|refine zb ?_|refine z7 ?_ _));refine zT (cs:=#[.int .u64 t110,.int .u64 x103001_3]) ?_ 1 _ rfl;(with_reducible repeat (first|refine z8 ?_ _|refine zb ?_|refine z7 ?_ _));refine zT (cs:=#[.int .u64 x103000_3,.int .u64 x103001_3]) ?_ 0 _ rfl;(with_reducible repeat (first|refine z8 ?_ _|refine zb ?_|refine z7 ?_ _));exact BK102.out⟩,⟨by repeat (first|(with_reducible first|exact HB.out|apply zd|apply z3|apply zc|refine za ?_ GE102.out)|exact HB.out)⟩⟩
end Go.Proofs.Ytnhbdhgbmjcjdaa.P
/- What layer 4's document says of leading bits, maps and bits turned about; turned twice is as it was. Own text. -/
namespace Go.Proofs.Ytnhbdhgbmjcjdaa.Sp
open Go.RowKit Go.Proofs.YtnhbdhgbmjcjdaaW.PrintWords Go.Proofs.YtnhbdhgbmjcjdaaW.PrintMore Go.Proofs.Ytnhbdhgbmjcjdaa.P Go.Proofs.Ytnhbdhgbmjcjdaa.Ar Go.Proofs.Ytnhbdhgbmjcjdaa.Tw
set_option linter.unusedVariables false
def leadI (x : E) (i : Nat) : Int := ((blen (val x % 2 ^ i) : Nat) : Int) - 1
theorem z6a {x : E} {i : Nat} (h : (val x).testBit i = true) : leadI x (i + 1) = (i : Int) := by
  have h1 : val x / 2 ^ i % 2 = 1 := by rw [Nat.testBit_eq_decide_div_mod_eq] at h; exact of_decide_eq_true h
  have h2 : val x % 2 ^ (i + 1) = val x % 2 ^ i + 2 ^ i * (val x / 2 ^ i % 2) := Nat.mod_pow_succ
  rw [h1, Nat.mul_one] at h2
  have hlt : val x % 2 ^ i < 2 ^ i := Nat.mod_lt _ (Nat.two_pow_pos i)
  have hp : (2 : Nat) ^ (i + 1) = 2 ^ i + 2 ^ i := by rw [Nat.pow_succ, Nat.mul_two]
  have b1 : blen (val x % 2 ^ (i + 1)) ≤ i + 1 := (z24 _ _).2 (Nat.mod_lt _ (Nat.two_pow_pos _))
  have b2 : ¬ blen (val x % 2 ^ (i + 1)) ≤ i := fun g => by have := (z24 _ _).1 g; omega
  unfold leadI; omega
theorem z5y {x : E} {i : Nat} (h : (val x).testBit i = false) : leadI x (i + 1) = leadI x i := by
  have h1 : val x / 2 ^ i % 2 = 0 := by
    rw [Nat.testBit_eq_decide_div_mod_eq] at h
    have := of_decide_eq_false h; omega
  have h2 : val x % 2 ^ (i + 1) = val x % 2 ^ i + 2 ^ i * (val x / 2 ^ i % 2) := Nat.mod_pow_succ
  rw [h1, Nat.mul_zero] at h2
  have h3 : val x % 2 ^ (i + 1) = val x % 2 ^ i := h2.trans (Nat.add_zero _)
  unfold leadI
  rw [h3]
theorem z69 (x : E) : leadI x 128 = ((blen (val x) : Nat) : Int) - 1 := by
  have := z1s x
  rw [z4c] at this
  unfold leadI; rw [Nat.mod_eq_of_lt this]
theorem z5z (x : E) : leadI x 0 = -1 := by
  unfold leadI; rw [Nat.pow_zero, Nat.mod_one]; rfl
theorem z5G (x : E) : ∀ (d i : Nat), i + d = 128 → Ev (fun k => zu.l0 k (leadI x i) (i : Int) (hi x) (lo x)) (leadI x 128) := by
  intro d
  induction d with
  | zero =>
    intro i hid
    have : i = 128 := by omega
    subst this
    refine Ev.step (fun k => by rw [zu.l0]) ?_
    exact Ev.neg (by decide) (Ev.ret _)
  | succ d ih =>
    intro i hid
    have hi' : i < 128 := by omega
    have hih := ih (i + 1) (by omega)
    refine Ev.step (fun k => by rw [zu.l0]) (Ev.pos (by omega) (Ev.bnd (z53 x i hi') ?_))
    simp only [z1G hi' (show 128 ≤ 4611686018427387904 by decide)]
    cases c : (val x).testBit i with
    | true =>
      rw [z6a c] at hih
      exact Ev.pos rfl hih
    | false =>
      rw [z5y c] at hih
      exact Ev.neg Bool.false_ne_true hih
theorem z37 (x : E) : Ev (fun k => zu.f k (hi x) (lo x)) (((blen (val x) : Nat) : Int) - 1) := by
  unfold zu.f
  have := z5G x 128 0 (by decide)
  rw [z5z, z69] at this
  exact this
theorem z5F (n : Nat) (X : List E) (hX : X.length ≤ 1000000) : ∀ (d i : Nat), i + d = X.length → Ev (fun k => zr.l0 k (X.map toR) (n : Int) (i : Int)) (decide (InN n (X.drop i))) := by
  intro d
  induction d with
  | zero =>
    intro i hi
    refine Ev.step (fun k => by rw [zr.l0]) (Ev.neg (by rw [List.length_map]; omega) (Ev.ret' ?_))
    symm; rw [decide_eq_true_eq, List.drop_eq_nil_of_le (by omega)]
    intro x hx; cases hx
  | succ d ih =>
    intro i hid
    have hi' : i < X.length := by omega
    have hd : InN n (X.drop i) ↔ val (X.getD i 0) < 2 ^ n ∧ InN n (X.drop (i + 1)) := by
      rw [List.drop_eq_getElem_cons hi']
      have : X.getD i 0 = X[i] := by rw [List.getD_eq_getElem?_getD, List.getElem?_eq_getElem hi']; rfl
      rw [this]
      exact List.forall_mem_cons
    have c1 : (i : Int) < ((X.map toR).length : Int) := by rw [List.length_map]; omega
    have hb := z24 (val (X.getD i 0)) n
    refine Ev.step (fun k => by rw [zr.l0]) (Ev.pos c1 (Ev.pos (Int.natCast_nonneg _) ?_))
    simp only [rdR, z4P, z4Q, z1G hi' (show X.length ≤ 4611686018427387904 by omega)]
    refine Ev.bnd (z37 _) ?_
    by_cases c : val (X.getD i 0) < 2 ^ n
    · have h2 := hb.2 c
      refine Ev.neg (by omega) ((ih (i + 1) (by omega)).eqn ?_)
      rw [decide_eq_decide, hd]; exact ⟨fun h => ⟨c, h⟩, fun h => h.2⟩
    · have h2 : ¬ blen (val (X.getD i 0)) ≤ n := fun h => c (hb.1 h)
      refine Ev.pos (by omega) (Ev.ret' ?_)
      symm; rw [decide_eq_false_iff_not, hd]; exact fun h => c h.1
theorem z36 (n : Nat) (X : List E) (hX : X.length ≤ 1000000) : Ev (fun k => zr.f k (X.map toR) (n : Int)) (decide (InN n X)) := by
  unfold zr.f
  exact z5F n X hX X.length 0 (Nat.zero_add _)
/-- Bits turned about, or the error. -/
def turnE (X : List E) (n : Int) : Int := if X.length > 128 ∨ n < 0 ∨ n > 128 then 1 else if InN n.toNat X then 0 else 6
def turnR (X : List E) (n : Int) : List E := if turnE X n = 0 then turnL X n.toNat else []
theorem TurnAll_ev (X : List E) (n : Int) : Ev (fun k => zz.f k (X.map toS) n) ((turnR X n).map toS, turnE X n) := by
  have h1 : (X.length > 128 ∨ n < 0 ∨ n > 128) → Ev (fun k => zz.j0 k (X.map toS) n true) ((turnR X n).map toS, turnE X n) := by
    intro h
    have e : turnE X n = 1 := if_pos h
    have eo : turnR X n = [] := if_neg (by rw [e]; decide)
    rw [e, eo]
    refine Ev.step (fun k => by rw [zz.j0]) ?_
    exact Ev.pos rfl (Ev.ret _)
  by_cases c : X.length > 128 ∨ n < 0 ∨ n > 128
  · unfold zz.f
    rw [List.length_map]
    by_cases c1 : (X.length : Int) > 128
    · exact Ev.pos c1 (h1 c)
    refine Ev.neg c1 ?_
    by_cases c2 : n < 0
    · exact Ev.pos c2 (h1 c)
    refine Ev.neg c2 ?_
    rw [decide_eq_true (show n > 128 by omega)]
    exact h1 c
  obtain ⟨m, rfl⟩ := Int.eq_ofNat_of_zero_le (show 0 ≤ n by omega)
  by_cases ci : InN m X
  · have e : turnE X (m : Int) = 0 := by unfold turnE; rw [if_neg c, Int.toNat_natCast, if_pos ci]
    have eo : turnR X (m : Int) = turnL X m := by unfold turnR; rw [if_pos e, Int.toNat_natCast]
    rw [e, eo]
    exact Turn_ev X (by omega) m (by omega) ci
  · have e : turnE X (m : Int) = 6 := by unfold turnE; rw [if_neg c, Int.toNat_natCast, if_neg ci]
    have eo : turnR X (m : Int) = [] := if_neg (by rw [e]; decide)
    rw [e, eo]
    unfold zz.f
    rw [List.length_map]
    refine Ev.neg (by omega) (Ev.neg (by omega) ?_)
    rw [decide_eq_false (show ¬ ((m : Int) > 128) by omega)]
    refine Ev.step (fun k => by rw [zz.j0]) (Ev.neg (by decide) (Ev.bnd (z2I m (by omega) X) ?_))
    exact Ev.neg (by rw [decide_eq_false ci]; exact Bool.false_ne_true) (Ev.ret _)
theorem z4N (X : List E) (hX : X.length ≤ 128) (n j : Nat) (hj : j < n) (hn : n ≤ 128) (out : List S38) (hout : out.length ≤ 128) {R : List S38 × Int}
    (h : Ev (fun k => zk.l0 k (X.map toR) (n : Int) (out ++ [toR (turnN X X.length j)]) ((j + 1 : Nat) : Int)) R) :
    ∀ (d i : Nat), i + d = X.length → Ev (fun k => zk.l1 k (X.map toR) (n : Int) out (j : Int) (i : Int) (hi (turnN X i j)) (lo (turnN X i j))) R := by
  intro d
  induction d with
  | zero =>
    intro i hid
    have : i = X.length := by omega
    subst this
    refine Ev.step (fun k => by rw [zk.l1]) ?_
    rw [List.length_map]
    refine Ev.neg (Int.lt_irrefl _) ?_
    rw [z1G hj (by omega)]
    exact Ev.pos (by omega) h
  | succ d ih =>
    intro i hid
    have hi' : i < X.length := by omega
    have hih := ih (i + 1) (by omega)
    have hs : turnN X (i + 1) j = turnN X i j + pick (hasB (X.getD i 0) j) (bitE i) := by unfold turnN; rw [sumN]
    have c1 : (i : Int) < ((X.map toR).length : Int) := by rw [List.length_map]; omega
    have hh : Ev (fun k => zv.f k (hi (X.getD i 0)) (lo (X.getD i 0)) (j : Int)) (hasB (X.getD i 0) j) := z53 _ j (by omega)
    refine Ev.step (fun k => by rw [zk.l1]) (Ev.pos c1 (Ev.pos (Int.natCast_nonneg _) ?_))
    simp only [rdR, z4P, z4Q, z1G hi' (show X.length ≤ 4611686018427387904 by omega)]
    refine Ev.bnd hh ?_
    cases c : hasB (X.getD i 0) j with
    | true =>
      rw [c, z1y] at hs
      rw [hs] at hih
      exact Ev.pos rfl (Ev.bnd (z4L i (by omega)) (Ev.bnd0 (z3D _ _) hih))
    | false =>
      rw [c, z1l, add_zero] at hs
      rw [hs] at hih
      exact Ev.neg Bool.false_ne_true hih
theorem z4M (X : List E) (hX : X.length ≤ 128) (n : Nat) (hn : n ≤ 128) : ∀ (d j : Nat), j + d = n →
    Ev (fun k => zk.l0 k (X.map toR) (n : Int) ((tabL j (turnN X X.length)).map toR) (j : Int)) ((turnL X n).map toR, 0) := by
  intro d
  induction d with
  | zero =>
    intro j hj
    have : j = n := by omega
    subst this
    refine Ev.step (fun k => by rw [zk.l0]) ?_
    exact Ev.neg (Int.lt_irrefl _) (Ev.ret _)
  | succ d ih =>
    intro j hj
    have hj' : j < n := by omega
    have hih := ih (j + 1) (by omega)
    have hs : tabL (j + 1) (turnN X X.length) = tabL j (turnN X X.length) ++ [turnN X X.length j] := z3A _ j
    rw [hs, List.map_append] at hih
    refine Ev.step (fun k => by rw [zk.l0]) (Ev.pos (by omega) ?_)
    have e0 : turnN X 0 j = 0 := rfl
    have := z4N X hX n j hj' hn ((tabL j (turnN X X.length)).map toR) (by rw [List.length_map, z1D]; omega) hih X.length 0 (Nat.zero_add _)
    rw [e0, z1V, z1W] at this
    exact this
theorem refTurn04_ev (X : List E) (hX : X.length ≤ 1000000) (n : Int) : Ev (fun k => zk.f k (X.map toR) n) ((turnR X n).map toR, turnE X n) := by
  have h1 : (X.length > 128 ∨ n < 0 ∨ n > 128) → Ev (fun k => zk.j0 k (X.map toR) n [] true) ((turnR X n).map toR, turnE X n) := by
    intro h
    have e : turnE X n = 1 := if_pos h
    have eo : turnR X n = [] := if_neg (by rw [e]; decide)
    rw [e, eo]
    refine Ev.step (fun k => by rw [zk.j0]) ?_
    exact Ev.pos rfl (Ev.ret _)
  unfold zk.f
  rw [List.length_map]
  by_cases c : X.length > 128 ∨ n < 0 ∨ n > 128
  · by_cases c1 : (X.length : Int) > 128
    · exact Ev.pos c1 (h1 c)
    refine Ev.neg c1 ?_
    by_cases c2 : n < 0
    · exact Ev.pos c2 (h1 c)
    refine Ev.neg c2 ?_
    rw [decide_eq_true (show n > 128 by omega)]
    exact h1 c
  refine Ev.neg (by omega) (Ev.neg (by omega) ?_)
  obtain ⟨m, rfl⟩ := Int.eq_ofNat_of_zero_le (show 0 ≤ n by omega)
  rw [decide_eq_false (show ¬ ((m : Int) > 128) by omega)]
  refine Ev.step (fun k => by rw [zk.j0]) (Ev.neg (by decide) (Ev.bnd (z36 m X hX) ?_))
  by_cases ci : InN m X
  · have e : turnE X (m : Int) = 0 := by unfold turnE; rw [if_neg c, Int.toNat_natCast, if_pos ci]
    have eo : turnR X (m : Int) = turnL X m := by unfold turnR; rw [if_pos e, Int.toNat_natCast]
    rw [e, eo]
    exact Ev.pos (decide_eq_true ci) (z4M X (by omega) m (by omega) m 0 (Nat.zero_add _))
  · have e : turnE X (m : Int) = 6 := by unfold turnE; rw [if_neg c, Int.toNat_natCast, if_neg ci]
    have eo : turnR X (m : Int) = [] := if_neg (by rw [e]; decide)
    rw [e, eo]
    exact Ev.neg (by rw [decide_eq_false ci]; exact Bool.false_ne_true) (Ev.ret _)
/-- The bits of a sum of bits. -/
theorem z2S (b : Nat → Bool) : ∀ n, n ≤ 128 → (val (sumN (fun u => pick (b u) (bitE u)) n) < 2 ^ n ∧ ∀ j, j < n → hasB (sumN (fun u => pick (b u) (bitE u)) n) j = b j)
  | 0, _ => ⟨by rw [sumN, z1z]; decide, fun j hj => by omega⟩
  | n + 1, h => by
    obtain ⟨h1, h2⟩ := z2S b n (by omega)
    have hp : (2 : Nat) ^ (n + 1) = 2 ^ n + 2 ^ n := by rw [Nat.pow_succ, Nat.mul_two]
    have hv : val (sumN (fun u => pick (b u) (bitE u)) (n + 1)) = val (sumN (fun u => pick (b u) (bitE u)) n) ^^^ (if b n then 2 ^ n else 0) := by
      rw [sumN, z1E, z5l, z3l (by omega)]
    refine ⟨?_, fun j hj => ?_⟩
    · rw [hv]
      refine Nat.xor_lt_two_pow (by omega) ?_
      split <;> omega
    · have hj2 : hasB (sumN (fun u => pick (b u) (bitE u)) (n + 1)) j = (hasB (sumN (fun u => pick (b u) (bitE u)) n) j ^^ (if b n then 2 ^ n else 0 : Nat).testBit j) := by
        show (val _).testBit j = _
        rw [hv, Nat.testBit_xor]; rfl
      rw [hj2]
      by_cases c : j = n
      · subst c
        have h0 : hasB (sumN (fun u => pick (b u) (bitE u)) j) j = false := Nat.testBit_lt_two_pow h1
        rw [h0, Bool.false_xor]
        cases hb : b j with
        | true => rw [if_pos rfl, Nat.testBit_two_pow_self]
        | false => rw [if_neg Bool.false_ne_true, Nat.zero_testBit]
      · rw [h2 j (by omega)]
        have : (if b n then 2 ^ n else 0 : Nat).testBit j = false := by
          cases b n with
          | true => rw [if_pos rfl, Nat.testBit_two_pow]; simp; omega
          | false => rw [if_neg Bool.false_ne_true, Nat.zero_testBit]
        rw [this, Bool.xor_false]
theorem turn_twice (X : List E) (hX : X.length ≤ 128) (n : Nat) (hn : n ≤ 128) (hin : InN n X) : turnL (turnL X n) X.length = X ∧ InN X.length (turnL X n) := by
  have hl : (turnL X n).length = n := z1D _ _
  refine ⟨?_, ?_⟩
  · refine z3g (X := turnL (turnL X n) X.length) (Y := X) (z1D _ _) ?_
    intro i hi'
    have hi2 : i < X.length := by
      have : (turnL (turnL X n) X.length).length = X.length := z1D _ _
      omega
    have hg : X.getD i 0 ∈ X := by
      rw [List.getD_eq_getElem?_getD, List.getElem?_eq_getElem hi2]; exact List.getElem_mem hi2
    have h1 : (turnL (turnL X n) X.length).getD i 0 = turnN (turnL X n) (turnL X n).length i := z28 _ _ i hi2
    rw [h1, hl]
    have h2 : turnN (turnL X n) n i = sumN (fun j => pick (hasB (X.getD i 0) j) (bitE j)) n := by
      unfold turnN
      apply z1u
      intro j hj
      have h3 : (turnL X n).getD j 0 = turnN X X.length j := z28 _ _ j hj
      rw [h3]
      unfold turnN
      rw [(z2S (fun u => hasB (X.getD u 0) j) X.length hX).2 i hi2]
    rw [h2]
    apply z2h
    rw [z3a _ n hn, Nat.mod_eq_of_lt (hin _ hg)]
  · intro x hx
    unfold turnL tabL at hx
    obtain ⟨j, _, rfl⟩ := List.mem_map.1 hx
    exact (z2S (fun u => hasB (X.getD u 0) j) X.length hX).1
end Go.Proofs.Ytnhbdhgbmjcjdaa.Sp
/- Maps of bits: what a map makes of an element, and one behind another, as the program and the document tell it. Own text. -/
namespace Go.Proofs.Ytnhbdhgbmjcjdaa.Sp
open Go.RowKit Go.Proofs.YtnhbdhgbmjcjdaaW.PrintWords Go.Proofs.YtnhbdhgbmjcjdaaW.PrintMore Go.Proofs.Ytnhbdhgbmjcjdaa.P Go.Proofs.Ytnhbdhgbmjcjdaa.Ar Go.Proofs.Ytnhbdhgbmjcjdaa.Tw
set_option linter.unusedVariables false
def madeN (M : List E) (x : E) (n : Nat) : E := sumN (fun i => pick (hasB x i) (M.getD i 0)) n
/-- What a map makes of an element. -/
def madeX (M : List E) (x : E) : E := madeN M x M.length
theorem z63 {α β : Type} (f : α → β) (d : α) (e : β) (X : List α) (i : Nat) (h : i < X.length) : (X.map f).getD i e = f (X.getD i d) := by
  rw [List.getD_eq_getElem?_getD, List.getD_eq_getElem?_getD, List.getElem?_map, List.getElem?_eq_getElem h]; rfl
theorem z40 (M : List E) (x : E) (i : Nat) : madeN M x (i + 1) = madeN M x i + pick (hasB x i) (M.getD i 0) := by unfold madeN; rw [sumN]
theorem make1_l0 (M : List E) (hM : M.length ≤ 128) (x : E) : ∀ (d i : Nat), i + d = M.length → Ev (fun k => zN.l0 k (M.map toS) (M.length : Int) (i : Int) (hi x) (lo x) (hi (madeN M x i)) (lo (madeN M x i))) (hi (madeX M x), lo (madeX M x)) := by
  intro d
  induction d with
  | zero =>
    intro i hid
    have : i = M.length := by omega
    subst this
    refine Ev.step (fun k => by rw [zN.l0]) ?_
    exact Ev.neg (Int.lt_irrefl _) (Ev.ret _)
  | succ d ih =>
    intro i hid
    have hi' : i < M.length := by omega
    have hih := ih (i + 1) (by omega)
    have hs := z40 M x i
    have c3 : (i : Int) < ((M.map toS).length : Int) := by rw [List.length_map]; omega
    refine Ev.step (fun k => by rw [zN.l0]) (Ev.pos (by omega) (Ev.pos (Int.natCast_nonneg _) (Ev.pos c3 ?_)))
    simp only [rdS, z45, z46, z1G hi' (show M.length ≤ 4611686018427387904 by omega)]
    refine Ev.bnd (z43 x i (by omega)) ?_
    cases c : hasB x i with
    | true =>
      rw [c, z1y] at hs
      rw [hs] at hih
      exact Ev.pos rfl (Ev.bnd0 (Add_eq _ _) hih)
    | false =>
      rw [c, z1l, add_zero] at hs
      rw [hs] at hih
      exact Ev.neg Bool.false_ne_true hih
theorem z5d (M : List E) (hM : M.length ≤ 128) (x : E) : Ev (fun k => zN.f k (M.map toS) (hi x) (lo x)) (hi (madeX M x), lo (madeX M x)) := by
  unfold zN.f
  rw [List.length_map]
  have := make1_l0 M hM x M.length 0 (Nat.zero_add _)
  have e0 : madeN M x 0 = 0 := rfl
  rw [e0, z1V, z1W] at this
  exact this
theorem z5H (M : List E) (hM : M.length ≤ 128) (x : E) : ∀ (d i : Nat), i + d = M.length → Ev (fun k => zt.l0 k (M.map toR) (i : Int) (hi x) (lo x) (hi (madeN M x i)) (lo (madeN M x i))) (hi (madeX M x), lo (madeX M x)) := by
  intro d
  induction d with
  | zero =>
    intro i hid
    have : i = M.length := by omega
    subst this
    refine Ev.step (fun k => by rw [zt.l0]) ?_
    rw [List.length_map]
    exact Ev.neg (Int.lt_irrefl _) (Ev.ret _)
  | succ d ih =>
    intro i hid
    have hi' : i < M.length := by omega
    have hih := ih (i + 1) (by omega)
    have hs := z40 M x i
    have c3 : (i : Int) < ((M.map toR).length : Int) := by rw [List.length_map]; omega
    have hh : Ev (fun k => zv.f k (hi x) (lo x) (i : Int)) (hasB x i) := z53 _ i (by omega)
    refine Ev.step (fun k => by rw [zt.l0]) (Ev.pos c3 (Ev.bnd hh ?_))
    simp only [rdR, z4P, z4Q, z1G hi' (show M.length ≤ 4611686018427387904 by omega)]
    cases c : hasB x i with
    | true =>
      rw [c, z1y] at hs
      rw [hs] at hih
      exact Ev.pos rfl (Ev.pos (Int.natCast_nonneg _) (Ev.bnd0 (z3D _ _) hih))
    | false =>
      rw [c, z1l, add_zero] at hs
      rw [hs] at hih
      exact Ev.neg Bool.false_ne_true hih
theorem z42 (M : List E) (hM : M.length ≤ 128) (x : E) : Ev (fun k => zt.f k (M.map toR) (hi x) (lo x)) (hi (madeX M x), lo (madeX M x)) := by
  unfold zt.f
  have := z5H M hM x M.length 0 (Nat.zero_add _)
  have e0 : madeN M x 0 = 0 := rfl
  rw [e0, z1V, z1W] at this
  exact this
/-- What a map makes, or the error. -/
def applyE (M : List E) (x : E) : Int := if M.length > 128 then 1 else if val x < 2 ^ M.length then 0 else 6
def applyX (M : List E) (x : E) : E := if applyE M x = 0 then madeX M x else 0
theorem z2Q (M : List E) (x : E) : (M.length > 128 ∧ applyE M x = 1 ∧ applyX M x = 0) ∨ (M.length ≤ 128 ∧ val x < 2 ^ M.length ∧ applyE M x = 0 ∧ applyX M x = madeX M x) ∨ (M.length ≤ 128 ∧ ¬ val x < 2 ^ M.length ∧ applyE M x = 6 ∧ applyX M x = 0) := by
  by_cases c : M.length > 128
  · have e : applyE M x = 1 := if_pos c
    exact .inl ⟨c, e, if_neg (by rw [e]; decide)⟩
  by_cases c2 : val x < 2 ^ M.length
  · have e : applyE M x = 0 := by unfold applyE; rw [if_neg c, if_pos c2]
    exact .inr (.inl ⟨by omega, c2, e, if_pos e⟩)
  · have e : applyE M x = 6 := by unfold applyE; rw [if_neg c, if_neg c2]
    exact .inr (.inr ⟨by omega, c2, e, if_neg (by rw [e]; decide)⟩)
theorem z4a (M : List E) (x : E) : Ev (fun k => z19.f k (M.map toS) (hi x) (lo x)) (hi (applyX M x), lo (applyX M x), applyE M x) := by
  unfold z19.f
  rw [List.length_map]
  have hb := z24 (val x) M.length
  rcases z2Q M x with ⟨c, e1, e2⟩ | ⟨c, c2, e1, e2⟩ | ⟨c, c2, e1, e2⟩ <;> rw [e1, e2]
  · refine Ev.pos (by omega) (Ev.ret' ?_)
    rw [z1V, z1W]
  · have h2 := hb.2 c2
    exact Ev.neg (by omega) (Ev.bnd (z4Z x) (Ev.neg (by omega) (Ev.bnd (z5d M c x) (Ev.ret _))))
  · have h2 : ¬ blen (val x) ≤ M.length := fun h => c2 (hb.1 h)
    refine Ev.neg (by omega) (Ev.bnd (z4Z x) (Ev.pos (by omega) (Ev.ret' ?_)))
    rw [z1V, z1W]
theorem z50 (M : List E) (x : E) : Ev (fun k => zK.f k (M.map toR) (hi x) (lo x)) (hi (applyX M x), lo (applyX M x), applyE M x) := by
  unfold zK.f
  rw [List.length_map]
  have hb := z24 (val x) M.length
  rcases z2Q M x with ⟨c, e1, e2⟩ | ⟨c, c2, e1, e2⟩ | ⟨c, c2, e1, e2⟩ <;> rw [e1, e2]
  · refine Ev.pos (by omega) (Ev.ret' ?_)
    rw [z1V, z1W]
  · have h2 := hb.2 c2
    exact Ev.neg (by omega) (Ev.bnd (z37 x) (Ev.neg (by omega) (Ev.bnd (z42 M c x) (Ev.ret _))))
  · have h2 : ¬ blen (val x) ≤ M.length := fun h => c2 (hb.1 h)
    refine Ev.neg (by omega) (Ev.bnd (z37 x) (Ev.pos (by omega) (Ev.ret' ?_)))
    rw [z1V, z1W]
/-- One map behind another one, or the error. -/
def thenE (A B : List E) : Int := if A.length > 128 ∨ B.length > 128 then 1 else if InN B.length A then 0 else 6
def thenR (A B : List E) : List E := if thenE A B = 0 then A.map (madeX B) else []
theorem z2N (A B : List E) : ((A.length > 128 ∨ B.length > 128) ∧ thenE A B = 1 ∧ thenR A B = []) ∨ ((A.length ≤ 128 ∧ B.length ≤ 128) ∧ InN B.length A ∧ thenE A B = 0 ∧ thenR A B = A.map (madeX B)) ∨ ((A.length ≤ 128 ∧ B.length ≤ 128) ∧ ¬ InN B.length A ∧ thenE A B = 6 ∧ thenR A B = []) := by
  by_cases c : A.length > 128 ∨ B.length > 128
  · have e : thenE A B = 1 := if_pos c
    exact .inl ⟨c, e, if_neg (by rw [e]; decide)⟩
  by_cases c2 : InN B.length A
  · have e : thenE A B = 0 := by unfold thenE; rw [if_neg c, if_pos c2]
    exact .inr (.inl ⟨by omega, c2, e, if_pos e⟩)
  · have e : thenE A B = 6 := by unfold thenE; rw [if_neg c, if_neg c2]
    exact .inr (.inr ⟨by omega, c2, e, if_neg (by rw [e]; decide)⟩)
theorem then_l0 (A B : List E) (hA : A.length ≤ 128) (hB : B.length ≤ 128) : ∀ (d i : Nat), i + d = A.length →
    Ev (fun k => zJ.l0 k (B.map toS) (((A.take i).map (madeX B)).map toS) (A.map toS) (A.length : Int) (i : Int)) ((A.map (madeX B)).map toS, 0) := by
  intro d
  induction d with
  | zero =>
    intro i hid
    have : i = A.length := by omega
    subst this
    refine Ev.step (fun k => by rw [zJ.l0]) ?_
    refine Ev.neg (Int.lt_irrefl _) (Ev.ret' ?_)
    rw [List.take_of_length_le (Nat.le_refl _)]
  | succ d ih =>
    intro i hid
    have hi' : i < A.length := by omega
    have hih := ih (i + 1) (by omega)
    rw [z2n (madeX B) A 0 i hi', List.map_append] at hih
    have c3 : (i : Int) < ((A.map toS).length : Int) := by rw [List.length_map]; omega
    have c4 : (((A.take i).map (madeX B)).map toS).length < 8796093022208 := by rw [List.length_map, List.length_map, List.length_take]; omega
    refine Ev.step (fun k => by rw [zJ.l0]) (Ev.pos (by omega) (Ev.pos (Int.natCast_nonneg _) (Ev.pos c3 ?_)))
    simp only [rdS, z45, z46, z1G hi' (show A.length ≤ 4611686018427387904 by omega)]
    exact Ev.bnd (z5d B hB _) (Ev.pos c4 hih)
theorem Then_ev (A B : List E) : Ev (fun k => zJ.f k (A.map toS) (B.map toS)) ((thenR A B).map toS, thenE A B) := by
  unfold zJ.f
  rw [List.length_map, List.length_map]
  rcases z2N A B with ⟨c, e1, e2⟩ | ⟨c, c2, e1, e2⟩ | ⟨c, c2, e1, e2⟩ <;> rw [e1, e2]
  · have h1 : Ev (fun k => zJ.j0 k (A.map toS) (B.map toS) true) ((([] : List E).map toS), 1) := by
      refine Ev.step (fun k => by rw [zJ.j0]) ?_
      exact Ev.pos rfl (Ev.ret _)
    by_cases c1 : (A.length : Int) > 128
    · exact Ev.pos c1 h1
    · refine Ev.neg c1 ?_
      rw [decide_eq_true (show (B.length : Int) > 128 by omega)]
      exact h1
  · refine Ev.neg (by omega) ?_
    rw [decide_eq_false (show ¬ ((B.length : Int) > 128) by omega)]
    refine Ev.step (fun k => by rw [zJ.j0]) (Ev.neg (by decide) ?_)
    rw [List.length_map, List.length_map]
    refine Ev.bnd (z2I B.length (by omega) A) (Ev.pos (decide_eq_true c2) ?_)
    exact then_l0 A B c.1 c.2 A.length 0 (Nat.zero_add _)
  · refine Ev.neg (by omega) ?_
    rw [decide_eq_false (show ¬ ((B.length : Int) > 128) by omega)]
    refine Ev.step (fun k => by rw [zJ.j0]) (Ev.neg (by decide) ?_)
    rw [List.length_map, List.length_map]
    refine Ev.bnd (z2I B.length (by omega) A) ?_
    exact Ev.neg (by rw [decide_eq_false c2]; exact Bool.false_ne_true) (Ev.ret _)
theorem z5J (A B : List E) (hA : A.length ≤ 128) (hB : B.length ≤ 128) : ∀ (d i : Nat), i + d = A.length →
    Ev (fun k => zm.l0 k (A.map toR) (B.map toR) (((A.take i).map (madeX B)).map toR) (i : Int)) ((A.map (madeX B)).map toR, 0) := by
  intro d
  induction d with
  | zero =>
    intro i hid
    have : i = A.length := by omega
    subst this
    refine Ev.step (fun k => by rw [zm.l0]) ?_
    rw [List.length_map]
    refine Ev.neg (Int.lt_irrefl _) (Ev.ret' ?_)
    rw [List.take_of_length_le (Nat.le_refl _)]
  | succ d ih =>
    intro i hid
    have hi' : i < A.length := by omega
    have hih := ih (i + 1) (by omega)
    rw [z2n (madeX B) A 0 i hi', List.map_append] at hih
    have c3 : (i : Int) < ((A.map toR).length : Int) := by rw [List.length_map]; omega
    have c4 : (((A.take i).map (madeX B)).map toR).length < 8796093022208 := by rw [List.length_map, List.length_map, List.length_take]; omega
    refine Ev.step (fun k => by rw [zm.l0]) (Ev.pos c3 (Ev.pos (Int.natCast_nonneg _) ?_))
    simp only [rdR, z4P, z4Q, z1G hi' (show A.length ≤ 4611686018427387904 by omega)]
    exact Ev.bnd (z42 B hB _) (Ev.pos c4 hih)
theorem z5I (A B : List E) (hA : A.length ≤ 1000000) : Ev (fun k => zm.f k (A.map toR) (B.map toR)) ((thenR A B).map toR, thenE A B) := by
  unfold zm.f
  rw [List.length_map, List.length_map]
  rcases z2N A B with ⟨c, e1, e2⟩ | ⟨c, c2, e1, e2⟩ | ⟨c, c2, e1, e2⟩ <;> rw [e1, e2]
  · have h1 : Ev (fun k => zm.j0 k (A.map toR) (B.map toR) [] true) ((([] : List E).map toR), 1) := by
      refine Ev.step (fun k => by rw [zm.j0]) ?_
      exact Ev.pos rfl (Ev.ret _)
    by_cases c1 : (A.length : Int) > 128
    · exact Ev.pos c1 h1
    · refine Ev.neg c1 ?_
      rw [decide_eq_true (show (B.length : Int) > 128 by omega)]
      exact h1
  · refine Ev.neg (by omega) ?_
    rw [decide_eq_false (show ¬ ((B.length : Int) > 128) by omega)]
    refine Ev.step (fun k => by rw [zm.j0]) (Ev.neg (by decide) ?_)
    rw [List.length_map]
    refine Ev.bnd (z36 B.length A (by omega)) (Ev.pos (decide_eq_true c2) ?_)
    exact z5J A B c.1 c.2 A.length 0 (Nat.zero_add _)
  · refine Ev.neg (by omega) ?_
    rw [decide_eq_false (show ¬ ((B.length : Int) > 128) by omega)]
    refine Ev.step (fun k => by rw [zm.j0]) (Ev.neg (by decide) ?_)
    rw [List.length_map]
    refine Ev.bnd (z36 B.length A (by omega)) ?_
    exact Ev.neg (by rw [decide_eq_false c2]; exact Bool.false_ne_true) (Ev.ret _)
/-- One map behind another one makes what both make, one behind the other. -/
theorem z6c (A B : List E) (x : E) : madeX B (madeX A x) = madeX (A.map (madeX B)) x := by
  have h1 : madeX B (madeX A x) = sumN (fun i => sumN (fun u => pick (hasB x u) (pick (hasB (A.getD u 0) i) (B.getD i 0))) A.length) B.length := by
    unfold madeX madeN
    apply z1u
    intro i _
    rw [z2o]
    exact z1u _ (fun u _ => z2O _ _ _ _)
  have h2 : madeX (A.map (madeX B)) x = sumN (fun u => pick (hasB x u) (madeX B (A.getD u 0))) A.length := by
    unfold madeX madeN
    rw [List.length_map]
    apply z1u
    intro u hu
    rw [z63 (fun x => sumN (fun i => pick (hasB x i) (B.getD i 0)) B.length) 0 0 A u hu]
  rw [h1, h2, z3H]
  apply z1u
  intro u _
  unfold madeX madeN
  rw [z4u]
theorem z48 (m : Nat) (f : Nat → E) : ∀ n, (∀ i, i < n → val (f i) < 2 ^ m) → val (sumN f n) < 2 ^ m
  | 0, _ => by rw [sumN, z1z]; exact Nat.two_pow_pos m
  | n + 1, h => by
    rw [sumN, z1E]
    exact Nat.xor_lt_two_pow (z48 m f n (fun i hi => h i (by omega))) (h n (by omega))
theorem made_in (A : List E) (m : Nat) (hA : InN m A) (x : E) : val (madeX A x) < 2 ^ m := by
  unfold madeX madeN
  apply z48
  intro i hi'
  have hg : A.getD i 0 ∈ A := by
    rw [List.getD_eq_getElem?_getD, List.getElem?_eq_getElem hi']; exact List.getElem_mem hi'
  cases hasB x i with
  | true => rw [z1y]; exact hA _ hg
  | false => rw [z1l, z1z]; exact Nat.two_pow_pos m
end Go.Proofs.Ytnhbdhgbmjcjdaa.Sp
namespace Go.Proofs.Ytnhbdhgbmjcjdaa.Sp
open Go.RowKit Go.Proofs.YtnhbdhgbmjcjdaaW.PrintWords Go.Proofs.YtnhbdhgbmjcjdaaW.PrintMore Go.Proofs.Ytnhbdhgbmjcjdaa.P Go.Proofs.Ytnhbdhgbmjcjdaa.Ar Go.Proofs.Ytnhbdhgbmjcjdaa.Tw
set_option linter.unusedVariables false
theorem z2R : Ev (fun k => zF.f k) true := Ev.of zF.mono (k := 140) (by decide +kernel)
theorem z4o (B C : List S35) (x a b c : Int) : Ev (fun k => z2.j2 k B C false x a b c) true := by
  refine Ev.step (fun k => by rw [z2.j2]) (Ev.neg (by decide) ?_)
  exact Ev.bnd z2R (Ev.ret _)
theorem z6d (A B : List E) (x : E) (b : Bool) (hb : b = false → A.length ≤ 200 ∧ B.length ≤ 200) : Ev (fun k => z2.j0 k (A.map toS) (B.map toS) b (hi x) (lo x)) true := by
  refine Ev.step (fun k => by rw [z2.j0]) ?_
  cases b with
  | true => exact Ev.pos rfl (Ev.bnd z2R (Ev.ret _))
  | false =>
    obtain ⟨hA, hB⟩ := hb rfl
    have hl : (thenR A B).length ≤ 1000000 := by
      rcases z2N A B with ⟨c, e1, e2⟩ | ⟨c, c2, e1, e2⟩ | ⟨c, c2, e1, e2⟩ <;> rw [e2]
      · exact Nat.zero_le _
      · rw [List.length_map]; omega
      · exact Nat.zero_le _
    refine Ev.neg (by decide) ?_
    refine Ev.bnd (z4a A x) (Ev.bnd (z5R A (by omega)) (Ev.bnd (z50 A x) ?_))
    refine Ev.bnd (Then_ev A B) (Ev.bnd (z5R A (by omega)) (Ev.bnd (z5R B (by omega)) (Ev.bnd (z5I A B (by omega)) ?_)))
    refine Ev.neg (by simp) (Ev.pos rfl (Ev.bnd (Same_ev _ _ hl) (Ev.pos (by simp) ?_)))
    have e : (thenE A B != thenE A B) = false := by simp
    simp only [e]
    refine Ev.step (fun k => by rw [z2.j1]) (Ev.neg (by decide) ?_)
    rcases z2Q A x with ⟨c, e1, e2⟩ | ⟨c, c2, e1, e2⟩ | ⟨c, c2, e1, e2⟩ <;> rw [e1, e2]
    · exact Ev.neg (by decide) (z4o _ _ _ _ _ _)
    · refine Ev.pos rfl ?_
      rcases z2N A B with ⟨d, f1, f2⟩ | ⟨d, d2, f1, f2⟩ | ⟨d, d2, f1, f2⟩ <;> rw [f1, f2]
      · exact z4o _ _ _ _ _ _
      · have hin := made_in A B.length d2 x
        have g1 : applyE B (madeX A x) = 0 := by
          unfold applyE; rw [if_neg (by omega), if_pos hin]
        have g2 : applyX B (madeX A x) = madeX B (madeX A x) := if_pos g1
        have g3 : applyE (A.map (madeX B)) x = 0 := by
          unfold applyE; rw [List.length_map, if_neg (by omega), if_pos c2]
        have g4 : applyX (A.map (madeX B)) x = madeX (A.map (madeX B)) x := if_pos g3
        have a1 := z4a B (madeX A x)
        have a2 := z4a (A.map (madeX B)) x
        rw [g1, g2] at a1
        rw [g3, g4] at a2
        rw [z6c A B x] at a1
        have e0 : ((0 : Int) == 0) = true := rfl
        rw [e0]
        refine Ev.step (fun k => by rw [z2.j2]) (Ev.pos rfl ?_)
        refine Ev.bnd a1 (Ev.bnd a2 (Ev.bnd z2R (Ev.pos rfl (Ev.pos rfl (Ev.pos rfl (Ev.ret' ?_))))))
        simp
      · exact z4o _ _ _ _ _ _
    · exact Ev.neg (by decide) (z4o _ _ _ _ _ _)
end Go.Proofs.Ytnhbdhgbmjcjdaa.Sp
namespace Go.Proofs.Ytnhbdhgbmjcjdaa.Pure
open Go.RowKit Go.Proofs.YtnhbdhgbmjcjdaaW.PrintWords Go.Proofs.YtnhbdhgbmjcjdaaW.PrintMore Go.Proofs.Ytnhbdhgbmjcjdaa.P Go.Proofs.Ytnhbdhgbmjcjdaa.Ar Go.Proofs.Ytnhbdhgbmjcjdaa.Tw Go.Proofs.Ytnhbdhgbmjcjdaa.Sp
set_option linter.unusedVariables false
theorem SpanMaps : Stated.spanMaps.Pure := by
  intro l1 l2 x h1 h2 h3
  obtain ⟨A, rfl⟩ := z6b l1 h1.1
  obtain ⟨B, rfl⟩ := z6b l2 h2.1
  obtain ⟨x, rfl⟩ := elem_of x h3
  refine Ev.rounds (g := fun k => z2.f k (A.map toS) (B.map toS) (hi x) (lo x)) ?_
  unfold z2.f
  simp only [List.length_map]
  have hT := z6d A B x true (fun h => by cases h)
  have hN : Ev (fun k => if (A.length : Int) > 200 then z2.j0 k (A.map toS) (B.map toS) true (hi x) (lo x) else z2.j0 k (A.map toS) (B.map toS) (decide ((B.length : Int) > 200)) (hi x) (lo x)) true := by
    by_cases c : (A.length : Int) > 200
    · exact Ev.pos c hT
    · exact Ev.neg c (z6d A B x _ (fun h => ⟨by omega, by have := of_decide_eq_false h; omega⟩))
  have hM : Ev (fun k => if (B.length : Int) > 40 then (if (B.length : Int) ≤ 128 then z2.j0 k (A.map toS) (B.map toS) true (hi x) (lo x) else (if (A.length : Int) > 200 then z2.j0 k (A.map toS) (B.map toS) true (hi x) (lo x) else z2.j0 k (A.map toS) (B.map toS) (decide ((B.length : Int) > 200)) (hi x) (lo x))) else (if (A.length : Int) > 200 then z2.j0 k (A.map toS) (B.map toS) true (hi x) (lo x) else z2.j0 k (A.map toS) (B.map toS) (decide ((B.length : Int) > 200)) (hi x) (lo x))) true := by
    by_cases c : (B.length : Int) > 40
    · refine Ev.pos c ?_
      by_cases c2 : (B.length : Int) ≤ 128
      · exact Ev.pos c2 hT
      · exact Ev.neg c2 hN
    · exact Ev.neg c hN
  by_cases c1 : (A.length : Int) > 40
  · refine Ev.pos c1 ?_
    by_cases c2 : (A.length : Int) ≤ 128
    · exact Ev.pos c2 hT
    · exact Ev.neg c2 hM
  · exact Ev.neg c1 hM
end Go.Proofs.Ytnhbdhgbmjcjdaa.Pure
-- Own text, written by wip/tools/gen.py: the row of the law SpanMaps, out of its pure statement (PureSpanMaps) and the walk.
namespace Go.Proofs.Ytnhbdhgbmjcjdaa.spanMaps
open Go.ChangeShapes Go.WideShapes Go.ChangeAt Go.RowKit Go.Proofs.YtnhbdhgbmjcjdaaW.PrintWords Go.Proofs.Ytnhbdhgbmjcjdaa.P Go.Proofs.Ytnhbdhgbmjcjdaa.Reads
set_option linter.unusedVariables false
set_option linter.unusedSimpArgs false
theorem own : ownKnob Try.prog.godebug = none := by kernel_rfl
theorem laidOut : laidOutB Try.prog = true := by kernel_rfl
theorem op35 : ReadsAs Try.prog 35 k35 (fun x => ((Lit.int .u64 x.f0).wf = true) ∧ ((Lit.int .u64 x.f1).wf = true)) :=
  (z6j (fun x : S35 => (x.f0, x.f1)) (fun a => ⟨⟨a.1, a.2⟩, rfl⟩) Try.underlying35 rfl (by kernel_rfl) (z6k (by kernel_rfl) (by kernel_rfl) (z6i Try.underlying33) (z6l (by kernel_rfl) (by kernel_rfl) (z6i Try.underlying33)) (by intro g hg; simp only [List.mem_cons, List.not_mem_nil, or_false] at hg; rcases hg with rfl <;> exact of_decide_eq_true (by kernel_rfl))))
theorem op22 : ReadsAs Try.prog 22 (Kd.slice 35 k35) (fun l => (∀ x_ ∈ l, ((Lit.int .u64 x_.f0).wf = true) ∧ ((Lit.int .u64 x_.f1).wf = true)) ∧ l.length ≤ maxLen) := op_slice Try.underlying22 (by kernel_rfl) op35
set_option maxRecDepth 100000 in
theorem lifted (os : Os) (started : os.Started) (H : Type) (enc : TypeId × Value → H) :
    ReturnsInHanded {} Try.checked os 4 .any (Rows.spanMapsSpec.pre6 enc Try.prog Try.f4 Rows.spanMapsRow.domain false) (Rows.spanMapsSpec.post enc Try.prog Try.f4 false true false false) := by
  refine returnsInHanded_of_change_sized (C := Try.checked) own started (by kernel_rfl) Try.func4
    (ChangeSpec.witness6 (enc := enc) (C := Try.checked) false ⟨#[], #[.slice none 0 0, .slice none 0 0, .agg #[.int .u64 0, .int .u64 0]], []⟩ 8 (by kernel_rfl) (by kernel_rfl) (by kernel_rfl) (by kernel_rfl)) ?_
  intro W base args ds gs before hval0 hW hcnd hsz0 _
  have hval : ∀ (j : Nat) t v, Try.f4.params[j]? = some t → args[j]? = some v → Value.okWide Try.prog W .any base t v := hval0
  have hW' := hW
  obtain ⟨p, q, hA0, hV, rfl, hfz, hnd⟩ := hW
  have hA : DataW.TrodAll enc Try.prog W 0 (fun _ => true) true Try.f4.params.toList args.toList ds p := hA0
  rw [Try.params4] at hA hval
  obtain ⟨v0, vs0, d0, ds0, p0, q0, hargs, rfl, rfl, h0, r0⟩ := trodAll_cons hA
  obtain ⟨v1, vs1, d1, ds1, p1, q1, rfl, rfl, rfl, h1, r1⟩ := trodAll_cons r0
  obtain ⟨v2, vs2, d2, ds2, p2, q2, rfl, rfl, rfl, h2, r2⟩ := trodAll_cons r1
  obtain ⟨rfl, rfl, rfl⟩ := trodAll_nil r2
  obtain rfl : args = #[v0, v1, v2] := by cases args; simp_all
  obtain ⟨rfl, rfl⟩ := trodVars_none hV
  have k0 := h0
  have lt0 : ∀ x ∈ p0, x.block < W.heap.size := by obtain ⟨m, hm⟩ := k0; exact DataW.trod_lt m _ _ _ hm
  obtain ⟨x0, A0, c0, rfl, hc0, hr0, g0⟩ := z4A op22 Try.underlying22 (hval 0 22 v0 rfl rfl) h0
  have k1 := h1
  have lt1 : ∀ x ∈ p1, x.block < W.heap.size := by obtain ⟨m, hm⟩ := k1; exact DataW.trod_lt m _ _ _ hm
  obtain ⟨x1, A1, c1, rfl, hc1, hr1, g1⟩ := z4A op22 Try.underlying22 (hval 1 22 v1 rfl rfl) h1
  have k2 := h2
  have lt2 : ∀ x ∈ p2, x.block < W.heap.size := by obtain ⟨m, hm⟩ := k2; exact DataW.trod_lt m _ _ _ hm
  obtain ⟨x2, cs2, rfl, hK2, g2⟩ := z5q op35 Try.underlying35 (hval 2 35 v2 rfl rfl) h2
  obtain rfl := z4m hK2
  clear hA0 hval0 hsz0
  obtain ⟨k, hpure⟩ := Pure.SpanMaps x0 x1 x2 g0 g1 g2
  refine (z2.calls k _ _ x0 _ _ x1 x2.f0 x2.f1 true W hr0 hc0 hr1 hc1 hpure).mono fun e W' hh => ?_
  obtain ⟨rfl, bel0⟩ := hh
  have bel : Below W.heap.size W W' := bel0
  exact ⟨_, rfl, _, _, _, [], _, [], hW', trodAll_mk1 (shut_bool Try.underlying4 _), (trodAll_cons_mk (Below.trod laidOut (by kernel_rfl) (of_decide_eq_true (by kernel_rfl)) k0 bel lt0) (trodAll_cons_mk (Below.trod laidOut (by kernel_rfl) (of_decide_eq_true (by kernel_rfl)) k1 bel lt1) (trodAll_cons_mk (Below.trod laidOut (by kernel_rfl) (of_decide_eq_true (by kernel_rfl)) k2 bel lt2) trodAll_mk0))), rfl, bel.frame _, fun h => by cases h⟩
theorem over : Rows.spanMapsRow.holds Try.pinned (OpenSpec.ofChange Rows.spanMapsSpec) :=
  OpenClaim.holds_of_wide 4 Try.f4 rfl rfl rfl rfl rfl rfl rfl ⟨rfl, rfl, rfl, rfl, rfl⟩ rfl rfl rfl rfl rfl (by kernel_rfl) Try.func4 (by kernel_rfl)
    (of_decide_eq_true (by kernel_rfl)) (by unfold Func.isWrapper; first | (rw [if_pos (by decide +kernel)]; kernel_rfl) | (rw [if_neg (by decide +kernel)]; exact ⟨rfl, rfl⟩))
    (fun os started H enc _ => lifted os started H enc)
theorem proved : Rows.SpanMapsSaid := over
#print axioms proved
end Go.Proofs.Ytnhbdhgbmjcjdaa.spanMaps
namespace Go.Proofs.Ytnhbdhgbmjcjdaa
/-- The row, under a short name, for the claim. -/
theorem spanMaps_holds : Rows.SpanMapsSaid := spanMaps.proved
end Go.Proofs.Ytnhbdhgbmjcjdaa

/- Own text: merged by pack2.py. -/
import Derived.RangeFuncNested
import Derived.RangeFuncBound
import Derived.RangeFuncCalls
import Derived.RangeFuncLeaves
import Derived.Shelf.Abstract
import Derived.WalkKit
import Derived.OwnWalkIn
import Derived.TacticsInMore
import Derived.LoopNIn
import Derived.LoopIn
import Derived.Test.YtfmjodlcjaflfaaProg
import Derived.Test.YtfmjodlcjaflfaaMBa
import Derived.Test.YtfmjodlcjaflfaaMBb
import Derived.Test.YtfmjodlcjaflfaaMBc
set_option linter.unusedSimpArgs false
set_option linter.unusedVariables false
namespace Go.Proofs.Ytfmjodlcjaflfaa
open Go.RowKit Go.Shelf Go.Proofs
section
attribute [local go_sem] Oper.semAt_some
theorem T.pw {n : Nat} (h7 : n ≤ 7) : wrap64 (2 ^ n) = ((2 ^ n : Nat) : Int) := by
  have : (2 : Nat) ^ n ≤ 2 ^ 7 := Nat.pow_le_pow_right (by decide) h7
  have e : ((2 : Int) ^ n) = ((2 ^ n : Nat) : Int) := by simp
  rw [e]
  generalize (2 : Nat) ^ n = z at *
  unfold wrap64; omega
def T.Hide (p : Prop) : Prop := p
theorem T.w1 {j n : Nat} (h : j < 2 ^ n) (hn : n ≤ 7) : wrap64 ((j : Int) + 1) = ((j + 1 : Nat) : Int) := by
  have : (2 : Nat) ^ n ≤ 2 ^ 7 := Nat.pow_le_pow_right (by decide) hn
  generalize (2 : Nat) ^ n = z at *
  unfold wrap64; omega
theorem T.meas {j n : Nat} (h : j < 2 ^ n) (hn : n ≤ 7) : 2 ^ n - (intOf (.int .i64 (wrap64 ((j : Int) + 1)))).toNat < 2 ^ n - (intOf (.int .i64 (j : Int))).toNat := by
  rw [T.w1 h hn]
  show 2 ^ n - ((j + 1 : Nat) : Int).toNat < 2 ^ n - (j : Int).toNat
  rw [Int.toNat_natCast, Int.toNat_natCast]
  omega
structure T.S where
  f0 : Int
  f1 : Int
def T.enc (x : T.S) : Value := .agg #[.int .u64 x.f0, .int .u64 x.f1]
/-- Between two rounds. -/
structure T.Inv (lv to : Int) (n0 b bo br l D : Nat) (w0 : World) (rec : Loop) (x o : T.S) (W : World) : Prop where
  c0 : W.heap[b]? = some (.cells #[.int .i64 lv] 3 (0, 0))
  c1 : W.heap[b + 1]? = some (.cells #[.int .i64 to] 3 (0, 0))
  c2 : W.heap[b + 2]? = some (.cells #[.int .u64 x.f0, .int .u64 x.f1] 34 (0, 0))
  co : W.heap[bo]? = some (.cells #[.int .u64 o.f0, .int .u64 o.f1] 34 (0, 0))
  cr : W.heap[br]? = some (.cells #[.int .u64 0, .int .u64 0] 34 (0, 0))
  lp : W.heap[l]? = some (.loop rec)
  df : W.heap[D]? = some (.deferred (some []))
  bel : Below n0 w0 W
theorem T.Inv.below {lv to : Int} {n0 b bo br l D : Nat} {w0 : World} {rec : Loop} {x o : T.S} {W W' : World} (h : T.Inv lv to n0 b bo br l D w0 rec x o W) (hn : n0 ≤ W.heap.size) (hb : Below W.heap.size W W') : T.Inv lv to n0 b bo br l D w0 rec x o W' := by
  have lt : ∀ {k : Nat} {o : Obj}, W.heap[k]? = some o → W'.heap[k]? = some o := fun {k o} e => (hb.block k (Array.getElem?_eq_some_iff.1 e).1).trans e
  exact ⟨lt h.c0, lt h.c1, lt h.c2, lt h.co, lt h.cr, lt h.lp, lt h.df, h.bel.trans (hb.mono hn)⟩
theorem T.store2 {W : World} {k : Nat} {u0 u1 v0 v1 : Value} {t : TypeId} (h : W.heap[k]? = some (.cells #[u0, u1] t (0, 0))) : ((W.setCell ⟨k, 0, none⟩ v0).setCell ⟨k, 1, none⟩ v1).heap[k]? = some (.cells #[v0, v1] t (0, 0)) := by
  rw [heap_setCell_same _ k 1 _ t v1 (heap_setCell_same _ k 0 _ t v0 h)]; rfl
theorem T.store2_other (W : World) {k j : Nat} (v0 v1 : Value) (h : j ≠ k) : ((W.setCell ⟨k, 0, none⟩ v0).setCell ⟨k, 1, none⟩ v1).heap[j]? = W.heap[j]? := by
  rw [heap_setCell_other _ _ _ _ h, heap_setCell_other _ _ _ _ h]
theorem T.Inv.setA {lv to : Int} {n0 b bo br l D : Nat} {w0 : World} {rec : Loop} {x o : T.S} {W : World} (h : T.Inv lv to n0 b bo br l D w0 rec x o W) (hb : n0 ≤ b) (d1 : bo ≠ b + 2) (d2 : br ≠ b + 2) (x' : T.S) :
    T.Inv lv to n0 b bo br l D w0 rec x' o ((W.setCell ⟨b + 2, 0, none⟩ (.int .u64 x'.f0)).setCell ⟨b + 2, 1, none⟩ (.int .u64 x'.f1)) := by
  have dl : l ≠ b + 2 := fun e => by have h1 := h.lp; rw [e, h.c2] at h1; cases h1
  have dd : D ≠ b + 2 := fun e => by have h1 := h.df; rw [e, h.c2] at h1; cases h1
  have ot : ∀ {j : Nat} {o : Obj}, j ≠ b + 2 → W.heap[j]? = some o → ((W.setCell ⟨b + 2, 0, none⟩ (.int .u64 x'.f0)).setCell ⟨b + 2, 1, none⟩ (.int .u64 x'.f1)).heap[j]? = some o := fun hj e => (T.store2_other W _ _ hj).trans e
  exact ⟨ot (by omega) h.c0, ot (by omega) h.c1, T.store2 h.c2, ot d1 h.co, ot d2 h.cr, ot dl h.lp, ot dd h.df, (h.bel.setCell (by show n0 ≤ b + 2; omega) _).setCell (by show n0 ≤ b + 2; omega) _⟩
def T.iter (sq : T.S → Option T.S) : Nat → T.S → Option T.S
  | 0, x => some x
  | n + 1, x => (sq x).bind (T.iter sq n)
set_option maxRecDepth 100000 in
set_option maxHeartbeats 1000000 in
theorem T.it (lv to : Int) (hlv : 0 ≤ to ∧ to ≤ lv ∧ lv ≤ 7) (n0 b bo br l D : Nat) (w0 : World) (rec : Loop) (hb : n0 ≤ b) (d1 : bo ≠ b + 2) (d2 : br ≠ b + 2) (sq : T.S → Option T.S)
    (hSq : ∀ x x', sq x = some x' → ∀ W, Calls Try.prog 46 #[.int .i64 lv, T.enc x] W fun e W' => e = .returned (T.enc x') ∧ Below W.heap.size W W')
    (xs os : Nat → T.S) (hxs : ∀ i, i < 2 ^ (lv - to).toNat → T.iter sq (2 ^ to.toNat) (xs i) = some (xs (i + 1)))
    (hY : ∀ i W, i < 2 ^ (lv - to).toNat → T.Inv lv to n0 b bo br l D w0 rec (xs i) (os i) W → YieldAt Fence.wide 0 Try.prog l #[T.enc (xs i)] W fun e W' => e = .returned (.bool true) ∧ T.Inv lv to n0 b bo br l D w0 rec (xs i) (os (i + 1)) W')
    (W : World) (h0 : T.Inv lv to n0 b bo br l D w0 rec (xs 0) (os 0) W) :
    CallsIn Fence.wide 0 Try.prog 45 #[.func (.yield l) #[] #[], .pointer (some ⟨b, 0, none⟩), .pointer (some ⟨b + 1, 0, none⟩), .pointer (some ⟨b + 2, 0, none⟩)] W fun e W' => (∃ v, e = .returned v) ∧ ∃ x, T.Inv lv to n0 b bo br l D w0 rec x (os (2 ^ (lv - to).toNat)) W' := by
  refine callsIn_of_wp Try.func45 rfl trivial ?_ rfl
  simp only [Try.ntmps45, List.size_toArray, List.length_cons, List.length_nil, Nat.reduceAdd, Nat.reduceSub, Array.replicate_succ, Array.replicate_zero, List.push_toArray, List.append_toArray, List.nil_append, List.cons_append]
  gi_wp2
  gi_loopw [5] (fun p wr => ∃ i : Nat, i ≤ 2 ^ (lv - to).toNat ∧ p = .int .i64 i ∧ T.Inv lv to n0 b bo br l D w0 rec (xs i) (os i) wr) (fun p _ => 2 ^ (lv - to).toNat - (intOf p).toNat)
  case atStart => exact ⟨0, Nat.zero_le _, rfl, h0⟩
  case round =>
    obtain ⟨i, hi, rfl, hinv⟩ := hrel
    obtain ⟨k0, k1, k2, k3, kr, k4, k5, k6⟩ := hinv
    have q0 : wr.cell? ⟨b, 0, none⟩ = some (.int .i64 lv) := by simp [World.cell?, k0]
    have q1 : wr.cell? ⟨b + 1, 0, none⟩ = some (.int .i64 to) := by simp [World.cell?, k1]
    have q2 : wr.cell? ⟨b + 2, 0, none⟩ = some (.int .u64 (xs i).f0) := by simp [World.cell?, k2]
    have q3 : wr.cell? ⟨b + 2, 1, none⟩ = some (.int .u64 (xs i).f1) := by simp [World.cell?, k2]
    have hN : wrap64 (2 ^ (lv - to).toNat) = ((2 ^ (lv - to).toNat : Nat) : Int) := T.pw (by omega)
    obtain ⟨N, hNN⟩ : ∃ N, wrap64 (2 ^ (lv - to).toNat) = N := ⟨_, rfl⟩
    rw [hNN] at hN
    replace hN : T.Hide (N = ((2 ^ (lv - to).toNat : Nat) : Int)) := hN
    by_cases hlt : i < 2 ^ (lv - to).toNat
    · obtain ⟨fn, tmps, assign, body, hy, hR⟩ := hY i wr hlt ⟨k0, k1, k2, k3, kr, k4, k5, k6⟩
      dsimp only [T.enc] at hy
      have hlt' : (i : Int) < N := by unfold T.Hide at hN; rw [hN]; omega
      gi_wp2
      refine ⟨rfl, hR.mono ?_⟩
      rintro e W3 ⟨rfl, j0, j1, j2, j3, jr, j4, j5, j6⟩
      obtain ⟨M, hMM⟩ : ∃ M, wrap64 (2 ^ to.toNat) = M := ⟨_, rfl⟩
      have hM : T.Hide (M = ((2 ^ to.toNat : Nat) : Int)) := by rw [← hMM]; exact T.pw (by omega)
      have r1 : W3.cell? ⟨b + 1, 0, none⟩ = some (.int .i64 to) := by simp [World.cell?, j1]
      gi_wp2
      gi_loopw [21] (fun p wr => ∃ j : Nat, j ≤ 2 ^ to.toNat ∧ p = .int .i64 j ∧ ∃ y, T.iter sq (2 ^ to.toNat - j) y = some (xs (i + 1)) ∧ T.Inv lv to n0 b bo br l D w0 rec y (os (i + 1)) wr) (fun p _ => 2 ^ to.toNat - (intOf p).toNat)
      case atStart => exact ⟨0, Nat.zero_le _, rfl, xs i, hxs i hlt, ⟨j0, j1, j2, j3, jr, j4, j5, j6⟩⟩
      case round =>
        obtain ⟨j, hj, rfl, y, hy2, g0, g1, g2, g3, gr, g4, g5, g6⟩ := hrel
        by_cases hlt2 : j < 2 ^ to.toNat
        · have hlt3 : (j : Int) < M := by unfold T.Hide at hM; rw [hM]; omega
          have t0 : wr.cell? ⟨b, 0, none⟩ = some (.int .i64 lv) := by simp [World.cell?, g0]
          have t2 : wr.cell? ⟨b + 2, 0, none⟩ = some (.int .u64 y.f0) := by simp [World.cell?, g2]
          have t3 : wr.cell? ⟨b + 2, 1, none⟩ = some (.int .u64 y.f1) := by simp [World.cell?, g2]
          obtain ⟨m, hm⟩ : ∃ m, 2 ^ to.toNat - j = m + 1 := ⟨2 ^ to.toNat - j - 1, by omega⟩
          rw [hm] at hy2
          obtain ⟨y', hy3, hy4⟩ : ∃ y', sq y = some y' ∧ T.iter sq m y' = some (xs (i + 1)) := by
            unfold T.iter at hy2
            cases h : sq y with
            | none => rw [h] at hy2; cases hy2
            | some y' => rw [h] at hy2; exact ⟨y', rfl, hy2⟩
          have hc := hSq y y' hy3 wr
          dsimp only [T.enc] at hc
          gi_wp2
          refine ⟨trivial, rfl, (callsIn_wide.2 hc).mono ?_⟩
          rintro e W4 ⟨rfl, hb4⟩
          have hn4 : n0 ≤ wr.heap.size := by have := (Array.getElem?_eq_some_iff.1 g2).1; omega
          have inv4 := T.Inv.below (⟨g0, g1, g2, g3, gr, g4, g5, g6⟩ : T.Inv lv to n0 b bo br l D w0 rec y (os (i + 1)) wr) hn4 hb4
          have v2 : W4.cell? ⟨b + 2, 0, none⟩ = some (.int .u64 y.f0) := by simp [World.cell?, inv4.c2]
          have v3 : W4.cell? ⟨b + 2, 1, none⟩ = some (.int .u64 y.f1) := by simp [World.cell?, inv4.c2]
          have z2 : W4.frozen? ⟨b + 2, 0, none⟩ = false := by simp [World.frozen?, inv4.c2]
          have z3 : W4.frozen? ⟨b + 2, 1, none⟩ = false := by simp [World.frozen?, inv4.c2]
          dsimp only [T.enc]
          gi_wp2
          refine ⟨⟨j + 1, hlt2, by rw [T.w1 hlt2 (by omega)], y', ?_, inv4.setA hb d1 d2 y'⟩, T.meas hlt2 (by omega)⟩
          rw [show 2 ^ to.toNat - (j + 1) = m by omega]
          exact hy4
        · have hlt3 : M ≤ (j : Int) := by unfold T.Hide at hM; rw [hM]; omega
          gi_wp2
          have hj2 : 2 ^ to.toNat - j = 0 := by omega
          rw [hj2] at hy2
          have hy2 : y = xs (i + 1) := by unfold T.iter at hy2; exact Option.some.inj hy2
          subst hy2
          exact ⟨⟨i + 1, hlt, by rw [T.w1 hlt (by omega)], ⟨g0, g1, g2, g3, gr, g4, g5, g6⟩⟩, T.meas hlt (by omega)⟩
    · have hlt' : N ≤ (i : Int) := by unfold T.Hide at hN; rw [hN]; omega
      gi_wp2
      refine ⟨fun _ h => (by cases h), ?_⟩
      gi_wp2
      go_end0
      have : i = 2 ^ (lv - to).toNat := by omega
      exact ⟨⟨_, rfl⟩, _, by rw [← this]; exact ⟨k0, k1, k2, k3, kr, k4, k5, k6⟩⟩
set_option maxRecDepth 100000 in
set_option maxHeartbeats 1000000 in
theorem T.conj (lv to h0 h1 : Int) (w : World) :
    CallsIn Fence.wide 0 Try.prog 27 #[.int .i64 lv, .int .i64 to, .agg #[.int .u64 h0, .int .u64 h1]] w fun e w' => e = .returned (.func (.func 45) #[] #[.pointer (some ⟨w.heap.size, 0, none⟩), .pointer (some ⟨w.heap.size + 1, 0, none⟩), .pointer (some ⟨w.heap.size + 2, 0, none⟩)]) ∧
      w' = ((w.alloc (.cells #[.int .i64 lv] 3)).alloc (.cells #[.int .i64 to] 3)).alloc (.cells #[.int .u64 h0, .int .u64 h1] 34) := by
  refine callsIn_of_wp Try.func27 rfl trivial ?_ rfl
  simp only [Try.ntmps27, List.size_toArray, List.length_cons, List.length_nil, Nat.reduceAdd, Nat.reduceSub, Array.replicate_succ, Array.replicate_zero, List.push_toArray, List.append_toArray, List.nil_append, List.cons_append]
  gi_wp2
  go_ret
  exact ⟨rfl, rfl⟩
theorem T.size_put (W : World) (l : Nat) (o : Obj) : (W.putObj l o).heap.size = W.heap.size := by simp [World.putObj]
/-- What a round leaves. -/
theorem T.Inv.round {lv to : Int} {n0 b bo br l D : Nat} {w0 : World} {rec : Loop} {x o : T.S} {W : World} (h : T.Inv lv to n0 b bo br l D w0 rec x o W) (hb : n0 ≤ bo ∧ n0 ≤ l) (d1 : bo ≠ b + 2) (d3 : br ≠ bo) (cx : Obj) (lb : Loop) {W6 : World}
    (h6 : Below (W.heap.size + 1) ((W.alloc cx).putObj l (.loop lb)) W6) (o' : T.S) :
    T.Inv lv to n0 b bo br l D w0 rec x o' (((W6.setCell ⟨bo, 0, none⟩ (.int .u64 o'.f0)).setCell ⟨bo, 1, none⟩ (.int .u64 o'.f1)).putObj l (.loop rec)) ∧ W6.heap[bo]? = some (.cells #[.int .u64 o.f0, .int .u64 o.f1] 34 (0, 0)) ∧ W6.heap[l]? = some (.loop lb) := by
  have lt : ∀ {k : Nat} {ob : Obj}, W.heap[k]? = some ob → k < W.heap.size := fun e => (Array.getElem?_eq_some_iff.1 e).1
  have dlo : l ≠ bo := fun e => by have h1 := h.lp; rw [e, h.co] at h1; cases h1
  have dbo : ∀ {k : Nat} {v : Value}, W.heap[k]? = some (.cells #[v] 3 (0, 0)) → k ≠ bo := fun {k v} e e2 => by rw [e2, h.co] at e; cases e
  have dlb : ∀ {k : Nat} {c : Array Value} {t : TypeId}, W.heap[k]? = some (.cells c t (0, 0)) → k ≠ l := fun {k c t} e e2 => by rw [e2, h.lp] at e; cases e
  have mid : ∀ {k : Nat} {ob : Obj}, k ≠ l → W.heap[k]? = some ob → W6.heap[k]? = some ob := fun {k ob} hk e => by
    have hl := lt e
    rw [h6.block k (by omega), World.putObj_heap_other hk, Below.heap_alloc _ _ _ hl]
    exact e
  have fin : ∀ {k : Nat} {ob : Obj}, k ≠ l → k ≠ bo → W.heap[k]? = some ob → (((W6.setCell ⟨bo, 0, none⟩ (.int .u64 o'.f0)).setCell ⟨bo, 1, none⟩ (.int .u64 o'.f1)).putObj l (.loop rec)).heap[k]? = some ob := fun {k ob} hk hk2 e => by
    rw [World.putObj_heap_other hk, T.store2_other _ _ _ hk2]
    exact mid hk e
  have ll := lt h.lp
  have l6 : W6.heap[l]? = some (.loop lb) := by
    rw [h6.block l (by omega)]
    exact World.putObj_heap_same (by rw [World.size_alloc]; omega)
  have o6 := mid (dlb h.co) h.co
  have s6 : W.heap.size + 1 ≤ W6.heap.size := by have := h6.size; rw [T.size_put, World.size_alloc] at this; exact this
  have hsz := h.bel.size
  refine ⟨⟨fin (dlb h.c0) (dbo h.c0) h.c0, fin (dlb h.c1) (dbo h.c1) h.c1, fin (dlb h.c2) (fun e => d1 e.symm) h.c2, ?_, fin (dlb h.cr) d3 h.cr, ?_, fin ?_ ?_ h.df, ?_⟩, o6, l6⟩
  · rw [World.putObj_heap_other (fun e => dlo e.symm)]
    exact T.store2 o6
  · exact World.putObj_heap_same (by have := (Array.getElem?_eq_some_iff.1 l6).1; simpa [World.setCell] using this)
  · intro e; have h1 := h.df; rw [e, h.lp] at h1; cases h1
  · intro e; have h1 := h.df; rw [e, h.co] at h1; cases h1
  · have hbel := h.bel
    refine ⟨?_, ?_, ?_, ?_, fun k hk => ?_⟩
    · rw [show (((W6.setCell ⟨bo, 0, none⟩ (.int .u64 o'.f0)).setCell ⟨bo, 1, none⟩ (.int .u64 o'.f1)).putObj l (.loop rec)).os = W6.os from rfl, h6.os]; exact hbel.os
    · rw [show (((W6.setCell ⟨bo, 0, none⟩ (.int .u64 o'.f0)).setCell ⟨bo, 1, none⟩ (.int .u64 o'.f1)).putObj l (.loop rec)).tape = W6.tape from rfl, h6.tape]; exact hbel.tape
    · rw [show (((W6.setCell ⟨bo, 0, none⟩ (.int .u64 o'.f0)).setCell ⟨bo, 1, none⟩ (.int .u64 o'.f1)).putObj l (.loop rec)).output = W6.output from rfl, h6.output]; exact hbel.output
    · rw [T.size_put]
      have : ((W6.setCell ⟨bo, 0, none⟩ (.int .u64 o'.f0)).setCell ⟨bo, 1, none⟩ (.int .u64 o'.f1)).heap.size = W6.heap.size := by simp [World.setCell]
      omega
    · by_cases c : k < W.heap.size
      · rw [World.putObj_heap_other (by omega), T.store2_other _ _ _ (by omega), h6.block k (by omega), World.putObj_heap_other (by omega), Below.heap_alloc _ _ _ c]
        exact hbel.block k hk
      · have h1 := (Array.getElem?_eq_some_iff.1 h.co).1
        omega
theorem T.begin {P : Program} {l : Nat} {rec : Loop} {W : World} (h : W.heap[l]? = some (.loop rec)) (h1 : rec.state = .ready) (h2 : rec.pending = none) :
    ∃ lb : Loop, (Instr.beginRound l).run P W = .ok () (W.putObj l (.loop lb)) ∧ ∀ W' : World, W'.heap[l]? = some (.loop lb) → (Instr.endRound l none).run P W' = .ok (.bool true) (W'.putObj l (.loop rec)) := by
  refine ⟨{ rec with state := .busy }, run_beginRound h h1, fun W' h' => ?_⟩
  have := run_endRound (P := P) none h'
  rw [this]
  cases rec
  cases h1
  cases h2
  rfl
/-- The results are stored, the deferred calls taken, the results read. -/
theorem T.fin {W : World} {k D : Nat} {P : Program} (h : W.heap[k]? = some (.cells #[.int .u64 0, .int .u64 0] 34 (0, 0))) (hd : D ≠ k) (h2 : W.heap[D]? = some (.deferred (some []))) (x y : Int) :
    (Instr.takeDeferred D).run P ((W.setCell ⟨k, 0, none⟩ (.int .u64 x)).setCell ⟨k, 1, none⟩ (.int .u64 y)) = .ok [] (((W.setCell ⟨k, 0, none⟩ (.int .u64 x)).setCell ⟨k, 1, none⟩ (.int .u64 y)).putObj D (.deferred none)) ∧
    (((W.setCell ⟨k, 0, none⟩ (.int .u64 x)).setCell ⟨k, 1, none⟩ (.int .u64 y)).putObj D (.deferred none)).heap[k]? = some (.cells #[.int .u64 x, .int .u64 y] 34 (0, 0)) := by
  refine ⟨run_takeDeferred ((T.store2_other W _ _ hd).trans h2), ?_⟩
  rw [World.putObj_heap_other (fun e => hd e.symm)]
  exact T.store2 h
theorem T.belput {B D : Nat} {w W : World} (h : Below B w W) (hD : B ≤ D) (o : Obj) : Below B w (W.putObj D o) :=
  ⟨h.os, h.tape, h.output, by rw [World.putObj_size]; exact h.size, fun k hk => by rw [World.putObj_heap_other (by omega)]; exact h.block k hk⟩
theorem T.res {W : World} {k : Nat} {x y : Int} {fn : Func} (h : W.heap[k]? = some (.cells #[.int .u64 x, .int .u64 y] 34 (0, 0))) (tmps : Array Value) (hr : fn.results = #[.cell 6 34]) (ht : tmps[6]? = some (.pointer (some ⟨k, 0, none⟩))) : (results fn tmps).run Try.prog W = .ok (.agg #[.int .u64 x, .int .u64 y]) W := by
  have c0 : W.cell? ⟨k, 0, none⟩ = some (.int .u64 x) := by simp [World.cell?, h]
  have c1 : W.cell? ⟨k, 1, none⟩ = some (.int .u64 y) := by simp [World.cell?, h]
  have hA : (isAgg 34).run Try.prog W = .ok true W := by kernel_rfl
  simp [results, hr, go_sem, ht, hA, c0, c1]
theorem T.endl {P : Program} {l : Nat} {rec : Loop} {W : World} (h : W.heap[l]? = some (.loop rec)) (h1 : rec.state = .ready) (h2 : rec.pending = none) : ∃ ob : Obj, (Instr.endLoop l).run P W = .ok none (W.putObj l ob) := by
  have := run_endLoop (P := P) h (by rw [h1]; simp)
  rw [h2] at this
  exact ⟨_, this⟩
/-- A loop over a closure, no loop around it. -/
theorem T.rf {P : Program} {g : Operand} {ps : Array Tmp} {assign body : Code} {Q : Exit → Act → World → Prop} {a : Act} {w : World} {gf : Nat} {lb : Array Value} (hg : a.eval g = .func (.func gf) #[] lb)
    (eg : ∀ args w, (callFunc gf args).run P w = .ok (.enter gf args) w)
    (h : ∀ fn, CallsIn Fence.wide 0 P gf (#[.func (.yield (w.heap.size + 1)) #[] #[]] ++ lb) ((w.alloc (.deferred (some []))).alloc (.loop { state := .ready, pending := none, fn, tmps := a.tmps, params := ps, assign, body, defers := w.heap.size }))
      (rangePost Fence.wide 0 P (w.heap.size + 1) Q { a with defers := { target := .collected w.heap.size, args := #[] } :: a.defers })) :
    (Code.rangeFunc g ps assign body).wpIn Fence.wide 0 P Q a w := by
  refine wpIn_rangeFunc fun fn _ => ?_
  refine ⟨w.heap.size + 1, [{ target := .collected w.heap.size, args := #[] }], (w.alloc (.deferred (some []))).alloc (.loop { state := .ready, pending := none, fn, tmps := a.tmps, params := ps, assign, body, defers := w.heap.size }),
    { target := .fn (.func gf) lb, args := #[.func (.yield (w.heap.size + 1)) #[] #[]] }, (w.alloc (.deferred (some []))).alloc (.loop { state := .ready, pending := none, fn, tmps := a.tmps, params := ps, assign, body, defers := w.heap.size }), gf, _, _, run_enterLoop_outer _ _ _ _ _, ?_, (fun _ _ => trivial), ?_, (fun h => by cases h), h fn⟩
  · simp only [resolve, hg]
    simp [go_sem]
  · simp [invoke, go_sem, eg]
set_option maxRecDepth 100000 in
set_option maxHeartbeats 1000000 in
theorem T.tr (lv to : Int) (a r : T.S) (xs os : Nat → T.S) (sq : T.S → Option T.S) (add : T.S → T.S → T.S)
    (hSq : ∀ x x', sq x = some x' → ∀ W, Calls Try.prog 46 #[.int .i64 lv, T.enc x] W fun e W' => e = .returned (T.enc x') ∧ Below W.heap.size W W')
    (hAdd : ∀ x y, ∀ W, Calls Try.prog 18 #[T.enc x, T.enc y] W fun e W' => e = .returned (T.enc (add x y)) ∧ Below W.heap.size W W')
    (bf : Bool) (hFit : ∀ W, Calls Try.prog 26 #[.int .i64 lv, .int .i64 to, T.enc a] W fun e W' => e = .returned (.bool bf) ∧ Below W.heap.size W W')
    (hbf : bf = true → (0 ≤ to ∧ to ≤ lv ∧ lv ≤ 7) ∧ (∀ i, i < 2 ^ (lv - to).toNat → T.iter sq (2 ^ to.toNat) (xs i) = some (xs (i + 1))) ∧ xs 0 = a ∧ os 0 = ⟨0, 0⟩ ∧ (∀ i, os (i + 1) = add (os i) (xs i)) ∧ os (2 ^ (lv - to).toNat) = r) (hbf2 : bf = false → r = ⟨0, 0⟩)
    (w : World) : CallsIn Fence.wide 0 Try.prog 9 #[.int .i64 lv, .int .i64 to, T.enc a] w fun e w' => e = .returned (T.enc r) ∧ Below w.heap.size w w' := by
  refine callsIn_of_wp_marks Try.func9 rfl trivial ?_ rfl
  simp only [Try.ntmps9, List.size_toArray, List.length_cons, List.length_nil, Nat.reduceAdd, Nat.reduceSub, Array.replicate_succ, Array.replicate_zero, List.push_toArray, List.append_toArray, List.nil_append, List.cons_append]
  dsimp only [T.enc]
  gi_wp2
  have hF := hFit (((w.alloc (.cells #[.int .u64 a.f0, .int .u64 a.f1] 34)).alloc (.cells #[.int .u64 0, .int .u64 0] 34)).alloc (.cells #[.int .u64 0, .int .u64 0] 34))
  dsimp only [T.enc] at hF
  refine ⟨trivial, rfl, (callsIn_wide.2 hF).mono ?_⟩
  rintro e W2 ⟨rfl, hb2⟩
  have sz : (((w.alloc (.cells #[.int .u64 a.f0, .int .u64 a.f1] 34)).alloc (.cells #[.int .u64 0, .int .u64 0] 34)).alloc (.cells #[.int .u64 0, .int .u64 0] 34)).heap.size = w.heap.size + 3 := by simp
  rw [sz] at hb2
  have p0 : W2.heap[w.heap.size]? = some (.cells #[.int .u64 a.f0, .int .u64 a.f1] 34 (0, 0)) := by
    rw [hb2.block _ (by omega), Below.heap_alloc _ _ _ (by simp; omega), Below.heap_alloc _ _ _ (by simp)]
    exact World.alloc_heap_new w _
  have p1 : W2.heap[w.heap.size + 1]? = some (.cells #[.int .u64 0, .int .u64 0] 34 (0, 0)) := by
    rw [hb2.block _ (by omega), Below.heap_alloc _ _ _ (by simp)]
    have := World.alloc_heap_new (w.alloc (.cells #[.int .u64 a.f0, .int .u64 a.f1] 34)) (.cells #[.int .u64 0, .int .u64 0] 34)
    rwa [World.size_alloc] at this
  have p2 : W2.heap[w.heap.size + 2]? = some (.cells #[.int .u64 0, .int .u64 0] 34 (0, 0)) := by
    rw [hb2.block _ (by omega)]
    have := World.alloc_heap_new ((w.alloc (.cells #[.int .u64 a.f0, .int .u64 a.f1] 34)).alloc (.cells #[.int .u64 0, .int .u64 0] 34)) (.cells #[.int .u64 0, .int .u64 0] 34)
    rwa [World.size_alloc, World.size_alloc] at this
  have bw : Below w.heap.size w W2 := ((((Below.refl _ w).alloc (Nat.le_refl _) _).alloc (by simp) _).alloc (by simp; omega) _).trans (hb2.mono (by omega))
  clear hb2 sz hF
  have a0 : W2.cell? ⟨w.heap.size, 0, none⟩ = some (.int .u64 a.f0) := by simp [World.cell?, p0]
  have a1 : W2.cell? ⟨w.heap.size, 1, none⟩ = some (.int .u64 a.f1) := by simp [World.cell?, p0]
  have b0 : W2.cell? ⟨w.heap.size + 1, 0, none⟩ = some (.int .u64 0) := by simp [World.cell?, p1]
  have b1 : W2.cell? ⟨w.heap.size + 1, 1, none⟩ = some (.int .u64 0) := by simp [World.cell?, p1]
  have c0 : W2.cell? ⟨w.heap.size + 1 + 1, 0, none⟩ = some (.int .u64 0) := by simp [World.cell?, p2]
  have c1 : W2.cell? ⟨w.heap.size + 1 + 1, 1, none⟩ = some (.int .u64 0) := by simp [World.cell?, p2]
  have z0 : W2.frozen? ⟨w.heap.size + 1, 0, none⟩ = false := by simp [World.frozen?, p1]
  have z1 : W2.frozen? ⟨w.heap.size + 1, 1, none⟩ = false := by simp [World.frozen?, p1]
  cases bf with
  | false =>
    have hr := hbf2 rfl
    clear hbf hbf2
    subst hr
    gi_wp2
    refine ⟨.agg #[.int .u64 0, .int .u64 0], T.res (T.store2 p1) _ rfl rfl, rfl, (bw.setCell (by show w.heap.size ≤ w.heap.size + 1; omega) _).setCell (by show w.heap.size ≤ w.heap.size + 1; omega) _⟩
  | true =>
    have H : T.Hide ((0 ≤ to ∧ to ≤ lv ∧ lv ≤ 7) ∧ (∀ i, i < 2 ^ (lv - to).toNat → T.iter sq (2 ^ to.toNat) (xs i) = some (xs (i + 1))) ∧ xs 0 = a ∧ os 0 = ⟨0, 0⟩ ∧ (∀ i, os (i + 1) = add (os i) (xs i)) ∧ os (2 ^ (lv - to).toNat) = r) := hbf rfl
    clear hbf hbf2
    gi_wp2
    refine ⟨trivial, rfl, (T.conj lv to a.f0 a.f1 W2).mono ?_⟩
    rintro e W3 ⟨rfl, rfl⟩
    gi_wp2
    clear hFit a0 a1 b0 b1 c0 c1 z0 z1
    obtain ⟨W3, hW3⟩ : ∃ W3, ((W2.alloc (.cells #[.int .i64 lv] 3)).alloc (.cells #[.int .i64 to] 3)).alloc (.cells #[.int .u64 a.f0, .int .u64 a.f1] 34) = W3 := ⟨_, rfl⟩
    have s3 : W3.heap.size = W2.heap.size + 3 := by rw [← hW3]; simp
    have old : ∀ {k : Nat} {o : Obj}, W2.heap[k]? = some o → W3.heap[k]? = some o := fun {k o} e => by
      have hk := (Array.getElem?_eq_some_iff.1 e).1
      rw [← hW3, Below.heap_alloc _ _ _ (by simp; omega), Below.heap_alloc _ _ _ (by simp; omega), Below.heap_alloc _ _ _ hk]
      exact e
    have n0 : W3.heap[W2.heap.size]? = some (.cells #[.int .i64 lv] 3 (0, 0)) := by
      rw [← hW3, Below.heap_alloc _ _ _ (by simp; omega), Below.heap_alloc _ _ _ (by simp)]
      exact World.alloc_heap_new W2 _
    have n1 : W3.heap[W2.heap.size + 1]? = some (.cells #[.int .i64 to] 3 (0, 0)) := by
      rw [← hW3, Below.heap_alloc _ _ _ (by simp)]
      have := World.alloc_heap_new (W2.alloc (.cells #[.int .i64 lv] 3)) (.cells #[.int .i64 to] 3)
      rwa [World.size_alloc] at this
    have n2 : W3.heap[W2.heap.size + 2]? = some (.cells #[.int .u64 a.f0, .int .u64 a.f1] 34 (0, 0)) := by
      rw [← hW3]
      have := World.alloc_heap_new ((W2.alloc (.cells #[.int .i64 lv] 3)).alloc (.cells #[.int .i64 to] 3)) (.cells #[.int .u64 a.f0, .int .u64 a.f1] 34)
      rwa [World.size_alloc, World.size_alloc] at this
    have bw3 : Below w.heap.size w W3 := by
      rw [← hW3]
      have hs := bw.size
      exact ((bw.alloc hs _).alloc (by simp; omega) _).alloc (by simp; omega) _
    have p1' := old p1
    have p2' := old p2
    have hs2 : w.heap.size + 3 ≤ W2.heap.size := by have := (Array.getElem?_eq_some_iff.1 p2).1; omega
    rw [hW3]
    clear hW3 old p0 p1 p2 bw
    refine T.rf (gf := 45) (lb := #[.pointer (some ⟨W2.heap.size, 0, none⟩), .pointer (some ⟨W2.heap.size + 1, 0, none⟩), .pointer (some ⟨W2.heap.size + 2, 0, none⟩)]) rfl (enters_of Try.func45 (by kernel_rfl) rfl) fun fn => ?_
    obtain ⟨hlv, hxs, hx0, ho0, hos, hor⟩ := H
    obtain ⟨W4, hW4⟩ : ∃ W4, W3.alloc (.deferred (some [])) = W4 := ⟨_, rfl⟩
    have s4 : W4.heap.size = W3.heap.size + 1 := by rw [← hW4]; simp
    have hD : W4.heap[W3.heap.size]? = some (.deferred (some [])) := by rw [← hW4]; exact World.alloc_heap_new W3 _
    have old : ∀ {k : Nat} {o : Obj}, W3.heap[k]? = some o → W4.heap[k]? = some o := fun {k o} e => by
      have hk := (Array.getElem?_eq_some_iff.1 e).1
      rw [← hW4, Below.heap_alloc _ _ _ hk]
      exact e
    have bw4 : Below w.heap.size w W4 := by rw [← hW4]; exact bw3.alloc bw3.size _
    have old2 : ∀ {k : Nat} {o : Obj} (l : Obj), W3.heap[k]? = some o → (W4.alloc l).heap[k]? = some o := fun {k o} l e => by
      have := old e
      rw [Below.heap_alloc _ _ _ (Array.getElem?_eq_some_iff.1 this).1]
      exact this
    have hl : ∀ l : Obj, (W4.alloc l).heap[W3.heap.size + 1]? = some l := fun l => by have := World.alloc_heap_new W4 l; rwa [s4] at this
    have hbw := bw4.size
    rw [hW4]
    refine (T.it lv to hlv w.heap.size W2.heap.size (w.heap.size + 2) (w.heap.size + 1) (W3.heap.size + 1) W3.heap.size w _ (by omega) (by omega) (by omega) sq hSq xs os hxs ?_ _ ⟨old2 _ n0, old2 _ n1, by rw [hx0]; exact old2 _ n2, by rw [ho0]; exact old2 _ p2', old2 _ p1', hl _, (Below.heap_alloc _ _ _ (by omega)).trans hD, bw4.alloc hbw _⟩).mono ?_
    · intro i W hi inv
      refine ⟨_, _, _, _, run_yield inv.lp rfl, roundIn_of_wpIn trivial ?_⟩
      dsimp only [T.enc]
      have hw3 := bw3.size
      clear s3 s4 hD old bw4 old2 hl hbw n0 n1 n2 bw3 p1' p2'
      gi_wp2
      have ll := (Array.getElem?_eq_some_iff.1 inv.lp).1
      have lo := (Array.getElem?_eq_some_iff.1 inv.co).1
      have dlo : w.heap.size + 2 ≠ W3.heap.size + 1 := fun e => by have h1 := inv.lp; rw [← e, inv.co] at h1; cases h1
      have hl1 := (Below.heap_alloc W (.cells #[.int .u64 (xs i).f0, .int .u64 (xs i).f1] 34) _ ll).trans inv.lp
      obtain ⟨lb, hbr, her⟩ := T.begin (P := Try.prog) hl1 rfl rfl
      refine ⟨_, hbr, ?_⟩
      obtain ⟨Wb, hWb⟩ : ∃ Wb, (W.alloc (.cells #[.int .u64 (xs i).f0, .int .u64 (xs i).f1] 34)).putObj (W3.heap.size + 1) (.loop lb) = Wb := ⟨_, rfl⟩
      rw [hWb]
      have sb : Wb.heap.size = W.heap.size + 1 := by rw [← hWb, T.size_put, World.size_alloc]
      have q0 : Wb.heap[w.heap.size + 2]? = some (.cells #[.int .u64 (os i).f0, .int .u64 (os i).f1] 34 (0, 0)) := by
        rw [← hWb, World.putObj_heap_other dlo, Below.heap_alloc _ _ _ lo]; exact inv.co
      have q1 : Wb.heap[W.heap.size]? = some (.cells #[.int .u64 (xs i).f0, .int .u64 (xs i).f1] 34 (0, 0)) := by
        rw [← hWb, World.putObj_heap_other (by omega)]; exact World.alloc_heap_new W _
      have u0 : Wb.cell? ⟨w.heap.size + 1 + 1, 0, none⟩ = some (.int .u64 (os i).f0) := by simp [World.cell?, q0]
      have u1 : Wb.cell? ⟨w.heap.size + 1 + 1, 1, none⟩ = some (.int .u64 (os i).f1) := by simp [World.cell?, q0]
      have u2 : Wb.cell? ⟨W.heap.size, 0, none⟩ = some (.int .u64 (xs i).f0) := by simp [World.cell?, q1]
      have u3 : Wb.cell? ⟨W.heap.size, 1, none⟩ = some (.int .u64 (xs i).f1) := by simp [World.cell?, q1]
      gi_wp2
      have hA := hAdd (os i) (xs i) Wb
      dsimp only [T.enc] at hA
      refine ⟨trivial, rfl, (CallsIn.inRound _ (callsIn_wide.2 hA)).mono ?_⟩
      rintro e W6 ⟨rfl, h6⟩
      rw [sb, ← hWb] at h6
      obtain ⟨i6, o6, l6⟩ := inv.round ⟨by omega, by omega⟩ (by omega) (by omega) (.cells #[.int .u64 (xs i).f0, .int .u64 (xs i).f1] 34) lb h6 (add (os i) (xs i))
      have v0 : W6.cell? ⟨w.heap.size + 1 + 1, 0, none⟩ = some (.int .u64 (os i).f0) := by simp [World.cell?, o6]
      have v1 : W6.cell? ⟨w.heap.size + 1 + 1, 1, none⟩ = some (.int .u64 (os i).f1) := by simp [World.cell?, o6]
      have z0 : W6.frozen? ⟨w.heap.size + 1 + 1, 0, none⟩ = false := by simp [World.frozen?, o6]
      have z1 : W6.frozen? ⟨w.heap.size + 1 + 1, 1, none⟩ = false := by simp [World.frozen?, o6]
      clear hWb hA h6
      gi_wp2
      refine ⟨_, _, her _ ((T.store2_other W6 _ _ (fun e => dlo e.symm)).trans l6), rfl, ?_⟩
      first
        | exact i6
        | (rw [hos]; exact i6)
    · rintro e W5 ⟨⟨v, rfl⟩, x, inv5⟩
      obtain ⟨ob, hob⟩ := T.endl (P := Try.prog) inv5.lp rfl rfl
      refine ⟨none, _, hob, ?_⟩
      obtain ⟨Wf, hWf⟩ : ∃ Wf, W5.putObj (W3.heap.size + 1) ob = Wf := ⟨_, rfl⟩
      have hne : ∀ {k : Nat} {c : Array Value} {t : TypeId}, W5.heap[k]? = some (.cells c t (0, 0)) → k ≠ W3.heap.size + 1 := fun {k c t} e e2 => by rw [e2, inv5.lp] at e; cases e
      have y0 : Wf.heap[w.heap.size + 1]? = some (.cells #[.int .u64 0, .int .u64 0] 34 (0, 0)) := by rw [← hWf, World.putObj_heap_other (hne inv5.cr)]; exact inv5.cr
      have y1 : Wf.heap[w.heap.size + 2]? = some (.cells #[.int .u64 r.f0, .int .u64 r.f1] 34 (0, 0)) := by
        rw [← hWf, World.putObj_heap_other (hne inv5.co), ← hor]; exact inv5.co
      have y2 : Wf.heap[W3.heap.size]? = some (.deferred (some [])) := by rw [← hWf, World.putObj_heap_other (by omega)]; exact inv5.df
      have y3 : Below w.heap.size w Wf := by
        have h5 := inv5.bel
        have hs := bw3.size
        refine ⟨?_, ?_, ?_, ?_, fun k hk => ?_⟩
        · rw [← hWf]; exact h5.os
        · rw [← hWf]; exact h5.tape
        · rw [← hWf]; exact h5.output
        · rw [← hWf, World.putObj_size]; exact h5.size
        · rw [← hWf, World.putObj_heap_other (by omega)]; exact h5.block k hk
      rw [hWf]
      have c0 : Wf.cell? ⟨w.heap.size + 1 + 1, 0, none⟩ = some (.int .u64 r.f0) := by simp [World.cell?, y1]
      have c1 : Wf.cell? ⟨w.heap.size + 1 + 1, 1, none⟩ = some (.int .u64 r.f1) := by simp [World.cell?, y1]
      have b0 : Wf.cell? ⟨w.heap.size + 1, 0, none⟩ = some (.int .u64 0) := by simp [World.cell?, y0]
      have b1 : Wf.cell? ⟨w.heap.size + 1, 1, none⟩ = some (.int .u64 0) := by simp [World.cell?, y0]
      have z0 : Wf.frozen? ⟨w.heap.size + 1, 0, none⟩ = false := by simp [World.frozen?, y0]
      have z1 : Wf.frozen? ⟨w.heap.size + 1, 1, none⟩ = false := by simp [World.frozen?, y0]
      have dD : W3.heap.size ≠ w.heap.size + 1 := fun e => by rw [e, y0] at y2; cases y2
      clear hWf hne inv5 s3 s4 hD old bw4 old2 hl hbw n0 n1 n2 p1' p2' hxs hx0 ho0 hos hor hlv hSq hAdd hW4
      gi_wp2
      have fin := T.fin (P := Try.prog) y0 dD y2 r.f0 r.f1
      refine ⟨by simp, .inl ⟨_, _, rfl, fin.1, ?_⟩⟩
      exact ⟨.agg #[.int .u64 r.f0, .int .u64 r.f1], T.res fin.2 _ rfl rfl, rfl, T.belput ((y3.setCell (by show w.heap.size ≤ w.heap.size + 1; omega) _).setCell (by show w.heap.size ≤ w.heap.size + 1; omega) _) bw3.size _⟩
end
def T.go (sq : T.S → Option T.S) (add : T.S → T.S → T.S) (m : Nat) : Nat → T.S → T.S → Option T.S
  | 0, _, o => some o
  | n + 1, x, o => (T.iter sq m x).bind fun y => T.go sq add m n y (add o x)
def T.sums (add : T.S → T.S → T.S) (x : T.S) : Nat → T.S → T.S
  | 0, o => o
  | n + 1, o => add (T.sums add x n o) x
theorem T.go_seq (sq : T.S → Option T.S) (add : T.S → T.S → T.S) (m : Nat) : ∀ (n : Nat) (x o r : T.S), T.go sq add m n x o = some r →
    ∃ xs os : Nat → T.S, xs 0 = x ∧ os 0 = o ∧ (∀ i, i < n → T.iter sq m (xs i) = some (xs (i + 1))) ∧ (∀ i, os (i + 1) = add (os i) (xs i)) ∧ os n = r
  | 0, x, o, r, h => ⟨fun _ => x, fun i => T.sums add x i o, rfl, rfl, fun i hi => by omega, fun i => rfl, Option.some.inj h⟩
  | n + 1, x, o, r, h => by
    unfold T.go at h
    cases hy : T.iter sq m x with
    | none => rw [hy] at h; cases h
    | some y =>
      rw [hy] at h
      obtain ⟨xs, os, h0, h1, h2, h3, h4⟩ := T.go_seq sq add m n y (add o x) r h
      refine ⟨fun i => match i with | 0 => x | i + 1 => xs i, fun i => match i with | 0 => o | i + 1 => os i, rfl, rfl, fun i hi => ?_, fun i => ?_, h4⟩
      · cases i with
        | zero => show T.iter sq m x = some (xs 0); rw [hy, h0]
        | succ i => exact h2 i (by omega)
      · cases i with
        | zero => exact h1
        | succ i => exact h3 i
end Go.Proofs.Ytfmjodlcjaflfaa
namespace Go.Proofs.Ytfmjodlcjaflfaa.B
open Go.Proofs.Ytfmjodlcjaflfaa.V.B Go.RowKit
set_option linter.unusedVariables false
structure S34 where
  f0 : Int
  f1 : Int
structure S25 where
  f0 : List Bool
  f1 : List S34
  f2 : List S34
structure S77 where
  f0 : Int
  f1 : List S34
  f2 : List S34
  f3 : List S34
structure S105 where
  f0 : S34
  f1 : List Bool
structure S39 where
  f0 : Int
  f1 : Int
def Es : Nat → Type
  | 0 => S34
  | 1 => S25
  | 2 => S77
  | 3 => S105
  | 4 => S39
  | _ + 5 => Unit
def Efs : Nat → List Ty
  | 0 => [.int .u64, .int .u64]
  | 1 => [.slice .bool, .slice (.st 0), .slice (.st 0)]
  | 2 => [.int .i64, .slice (.st 0), .slice (.st 0), .slice (.st 0)]
  | 3 => [.int .u64, .int .u64, .slice .bool]
  | 4 => [.int .u64, .int .u64]
  | _ + 5 => []
def z34 : S34 := ⟨0, 0⟩
def z25 : S25 := ⟨[], [], []⟩
def z77 : S77 := ⟨0, [], [], []⟩
def z105 : S105 := ⟨z34, []⟩
def z39 : S39 := ⟨0, 0⟩
def E : Env where
  S := Es
  fs := Efs
  z := fun n => match n with | 0 => z34 | 1 => z25 | 2 => z77 | 3 => z105 | 4 => z39 | _ + 5 => ()
  to := fun n => match n with | 0 => fun (x : S34) => (x.f0, x.f1, ()) | 1 => fun (x : S25) => (x.f0, x.f1, x.f2, ()) | 2 => fun (x : S77) => (x.f0, x.f1, x.f2, x.f3, ()) | 3 => fun (x : S105) => (x.f0.f0, x.f0.f1, x.f1, ()) | 4 => fun (x : S39) => (x.f0, x.f1, ()) | _ + 5 => fun _ => ()
  of := fun n => match n with | 0 => fun x => (⟨x.1, x.2.1⟩ : S34) | 1 => fun x => (⟨x.1, x.2.1, x.2.2.1⟩ : S25) | 2 => fun x => (⟨x.1, x.2.1, x.2.2.1, x.2.2.2.1⟩ : S77) | 3 => fun x => (⟨(⟨x.1, x.2.1⟩ : S34), x.2.2.1⟩ : S105) | 4 => fun x => (⟨x.1, x.2.1⟩ : S39) | _ + 5 => fun _ => ()
  of_to := fun n => match n with | 0 => fun _ => rfl | 1 => fun _ => rfl | 2 => fun _ => rfl | 3 => fun _ => rfl | 4 => fun _ => rfl | _ + 5 => fun _ => rfl
  to_of := fun n => match n with | 0 => fun _ => rfl | 1 => fun _ => rfl | 2 => fun _ => rfl | 3 => fun _ => rfl | 4 => fun _ => rfl | _ + 5 => fun _ => rfl
theorem zl_ok : ∀ n, E.to n (E.z n) = zl E (E.fs n) := fun n => match n with | 0 => rfl | 1 => rfl | 2 => rfl | 3 => rfl | 4 => rfl | _ + 5 => rfl
def rd34 (xs : List S34) (i : Int) : S34 := xs.getD i.toNat z34
def rd25 (xs : List S25) (i : Int) : S25 := xs.getD i.toNat z25
def rd77 (xs : List S77) (i : Int) : S77 := xs.getD i.toNat z77
def rd105 (xs : List S105) (i : Int) : S105 := xs.getD i.toNat z105
def rd39 (xs : List S39) (i : Int) : S39 := xs.getD i.toNat z39
def rdI (xs : List Int) (i : Int) : Int := xs.getD i.toNat 0
def rdB (xs : List Bool) (i : Int) : Bool := xs.getD i.toNat false
def rdL {α : Type} (xs : List (List α)) (i : Int) : List α := xs.getD i.toNat []
def by256_793 : ByteArray := ⟨#[0, 1, 2, 2, 3, 3, 3, 3, 4, 4, 4, 4, 4, 4, 4, 4, 5, 5, 5, 5, 5, 5, 5, 5, 5, 5, 5, 5, 5, 5, 5, 5, 6, 6, 6, 6, 6, 6, 6, 6, 6, 6, 6, 6, 6, 6, 6, 6, 6, 6, 6, 6, 6, 6, 6, 6, 6, 6, 6, 6, 6, 6, 6, 6, 7, 7, 7, 7, 7, 7, 7, 7, 7, 7, 7, 7, 7, 7, 7, 7, 7, 7, 7, 7, 7, 7, 7, 7, 7, 7, 7, 7, 7, 7, 7, 7, 7, 7, 7, 7, 7, 7, 7, 7, 7, 7, 7, 7, 7, 7, 7, 7, 7, 7, 7, 7, 7, 7, 7, 7, 7, 7, 7, 7, 7, 7, 7, 7, 8, 8, 8, 8, 8, 8, 8, 8, 8, 8, 8, 8, 8, 8, 8, 8, 8, 8, 8, 8, 8, 8, 8, 8, 8, 8, 8, 8, 8, 8, 8, 8, 8, 8, 8, 8, 8, 8, 8, 8, 8, 8, 8, 8, 8, 8, 8, 8, 8, 8, 8, 8, 8, 8, 8, 8, 8, 8, 8, 8, 8, 8, 8, 8, 8, 8, 8, 8, 8, 8, 8, 8, 8, 8, 8, 8, 8, 8, 8, 8, 8, 8, 8, 8, 8, 8, 8, 8, 8, 8, 8, 8, 8, 8, 8, 8, 8, 8, 8, 8, 8, 8, 8, 8, 8, 8, 8, 8, 8, 8, 8, 8, 8, 8, 8, 8, 8, 8, 8, 8, 8, 8, 8, 8, 8, 8, 8, 8]⟩
def tab : Tab := ⟨[(3, .int .i64), (4, .bool), (5, .int .u8), (22, .slice .bool), (23, .slice (.st 0)), (25, .st 1), (27, .int .i64), (32, .int .u64), (34, .st 0), (39, .st 4), (40, .slice (.st 4)), (53, .ptr (.st 2)), (77, .st 2), (85, .int .u64), (103, .slice (.st 3)), (105, .st 3), (122, .int .i64)], [(25, 0, 0, 22), (34, 0, 0, 32), (34, 1, 1, 32), (39, 0, 0, 32), (39, 1, 1, 32), (77, 0, 0, 3), (77, 1, 1, 23), (77, 2, 2, 23), (77, 3, 3, 23), (105, 0, 0, 34), (105, 1, 2, 22)], [(22, 1), (23, 16), (40, 16), (103, 40)], [(34, 2)], [9]⟩
theorem tab_ok : tab.chk E Try.prog = true := by kernel_rfl
theorem tie (calls : Nat → Option (Sig E.toTys)) : Tie (XR E) Try.prog (tab.ctx calls) := tie_of zl_ok tab_ok calls
end Go.Proofs.Ytfmjodlcjaflfaa.B
namespace Go.Proofs.Ytfmjodlcjaflfaa.B
open Go.Proofs.Ytfmjodlcjaflfaa.V.B Go.RowKit
set_option linter.unusedVariables false
/-! ### steeple/octet.Wide: function 24 -/
def octet_Wide.f (k : Nat) (a0 : Int) : Option Int := if a0 < 0 then some 0 else if a0 > 7 then some 0 else if a0 ≤ 3 then some 1 else if 0 ≤ wrap64 (a0 - 3) then some (shl .i64 1 (wrap64 (a0 - 3))) else none
def octet_Wide.sig (k : Nat) : Sig E.toTys := ⟨[.int .i64], [(false, .int .i64)], none, fun x => f k x.1⟩
noncomputable def octet_Wide.body : Code := Try.f24.body.getD .skip
def octet_Wide.calls (k : Nat) : List (Nat × Sig E.toTys) := []
def octet_Wide.cuts : List (Cut E (RT E.toTys [(false, .int .i64)])) := []
theorem octet_Wide.ok (k : Nat) : Okf (XR E) Try.prog 24 (octet_Wide.sig k) := ⟨fn_ok (C := fun k => tab.ctx fun f => lk f (octet_Wide.calls k)) (fun k => tie _) k (fun j hj => calls_ok (kn)) 400 Try.func24 (body := octet_Wide.body) (res := [.tmp 2]) rfl (by kernel_rfl) octet_Wide.cuts (kn) (fun x => by kernel_rfl), _, Try.func24, by kernel_rfl, by kernel_rfl⟩
/-! ### steeple/tower.Bit: function 19 -/
mutual
def tower_Bit.j3 : Nat → Int → Int → Int → Option S34
  | 0, _, _, _ => none
  | k + 1, x0, x1, x2 => if x0 ≥ 64 then (if x0 < 128 then (if 0 ≤ wrap64 (x0 - 64) then some (⟨shl .u64 1 (wrap64 (x0 - 64)), 0⟩ : S34) else none) else tower_Bit.j5 k x1 x2) else tower_Bit.j5 k x1 x2
def tower_Bit.j5 : Nat → Int → Int → Option S34
  | 0, _, _ => none
  | k + 1, _, _ => some (⟨0, 0⟩ : S34)
end
def tower_Bit.f (k : Nat) (a0 : Int) : Option S34 := if a0 ≥ 0 then (if a0 < 64 then (if 0 ≤ a0 then some (⟨0, shl .u64 1 a0⟩ : S34) else none) else tower_Bit.j3 k a0 0 0) else tower_Bit.j3 k a0 0 0
def tower_Bit.sig (k : Nat) : Sig E.toTys := ⟨[.int .i64], [(false, .st 0)], none, fun x => f k x.1⟩
noncomputable def tower_Bit.body : Code := Try.f19.body.getD .skip
def tower_Bit.calls (k : Nat) : List (Nat × Sig E.toTys) := []
def tower_Bit.cuts : List (Cut E (RT E.toTys [(false, .st 0)])) := [⟨false, 3, ⟨cat [.one (.val (.int .i64))] (cat (ds 1) (cat [.one (.ptr 0 0)] (ds 22))), [.var [.val (.int .u64), .val (.int .u64)]], false⟩, fun k x => tower_Bit.j3 k x.1.1 x.2.1.1 x.2.1.2.1⟩,
  ⟨false, 5, ⟨cat (ds 2) (cat [.one (.ptr 0 0)] (ds 22)), [.var [.val (.int .u64), .val (.int .u64)]], false⟩, fun k x => tower_Bit.j5 k x.2.1.1 x.2.1.2.1⟩]
theorem tower_Bit.ok (k : Nat) : Okf (XR E) Try.prog 19 (tower_Bit.sig k) := ⟨fn_ok (C := fun k => tab.ctx fun f => lk f (tower_Bit.calls k)) (fun k => tie _) k (fun j hj => calls_ok (kn)) 400 Try.func19 (body := tower_Bit.body) (res := [.cell 2 34]) rfl (by kernel_rfl) tower_Bit.cuts (kc ⟨by kernel_rfl, rfl, fun _ => rfl, fun _ _ => by kernel_rfl⟩ (kc ⟨by kernel_rfl, rfl, fun _ => rfl, fun _ _ => by kernel_rfl⟩ (kn))) (fun x => by kernel_rfl), _, Try.func19, by kernel_rfl, by kernel_rfl⟩
/-! ### steeple/octet.Of: function 28 -/
def octet_Of.f (k : Nat) (a0 : Int) (a1 : S34) : Option Bool := if a0 < 0 then some false else if a0 > 7 then some false else if a0 = 7 then some true else if a0 = 6 then some (decide (a1.f0 = 0)) else if a1.f0 = 0 then (if 0 ≤ a0 then (if 0 ≤ shl .u64 1 a0 then some (decide (shr .u64 a1.f1 (shl .u64 1 a0) = 0)) else none) else none) else some false
def octet_Of.sig (k : Nat) : Sig E.toTys := ⟨[.int .i64, .st 0], [(false, .bool)], none, fun x => f k x.1 x.2.1⟩
noncomputable def octet_Of.body : Code := Try.f28.body.getD .skip
def octet_Of.calls (k : Nat) : List (Nat × Sig E.toTys) := []
def octet_Of.cuts : List (Cut E (RT E.toTys [(false, .bool)])) := []
theorem octet_Of.ok (k : Nat) : Okf (XR E) Try.prog 28 (octet_Of.sig k) := ⟨fn_ok (C := fun k => tab.ctx fun f => lk f (octet_Of.calls k)) (fun k => tie _) k (fun j hj => calls_ok (kn)) 400 Try.func28 (body := octet_Of.body) (res := [.tmp 4]) rfl (by kernel_rfl) octet_Of.cuts (kn) (fun x => by kernel_rfl), _, Try.func28, by kernel_rfl, by kernel_rfl⟩
/-! ### steeple/linpoly.New$1: function 64 -/
def linpoly_New_1.f (k : Nat) (a0 : S34) (a1 : Option Int) : Option Bool := (match a1 with | none => none | some r0 => (octet_Of.f k r0 a0).bind fun r1 => some (!r1))
def linpoly_New_1.sig (k : Nat) : Sig E.toTys := ⟨[.st 0, .ptr (.int .i64)], [(false, .bool)], none, fun x => f k x.1 x.2.1⟩
noncomputable def linpoly_New_1.body : Code := Try.f64.body.getD .skip
def linpoly_New_1.calls (k : Nat) : List (Nat × Sig E.toTys) := [(28, octet_Of.sig k)]
def linpoly_New_1.cuts : List (Cut E (RT E.toTys [(false, .bool)])) := []
theorem linpoly_New_1.ok (k : Nat) : Okf (XR E) Try.prog 64 (linpoly_New_1.sig k) := ⟨fn_ok (C := fun k => tab.ctx fun f => lk f (linpoly_New_1.calls k)) (fun k => tie _) k (fun j hj => calls_ok (kc (octet_Of.ok j) (kn))) 400 Try.func64 (body := linpoly_New_1.body) (res := [.tmp 3]) rfl (by kernel_rfl) linpoly_New_1.cuts (kn) (fun x => by kernel_rfl), _, Try.func64, by kernel_rfl, by kernel_rfl⟩
/-! ### slices.IndexFunc: function 77 -/
def slices_IndexFunc77_c64.l2 : Nat → List S34 → Int → Int → Int → Option Int
  | 0, _, _, _, _ => none
  | k + 1, x0, x1, x2, x3 => if x3 < x2 then (if 0 ≤ x3 then (if x3 < (x0.length : Int) then ((linpoly_New_1.f k (rd34 x0 x3) (some x1)).bind fun r0 => if r0 = true then some x3 else slices_IndexFunc77_c64.l2 k x0 x1 x2 (wrap64 (x3 + 1))) else none) else none) else some (-1)
def slices_IndexFunc77_c64.f (k : Nat) (a0 : List S34) (a1 : Int) : Option Int := slices_IndexFunc77_c64.l2 k a0 a1 (a0.length : Int) 0
def slices_IndexFunc77_c64.sig (k : Nat) : Sig E.toTys := ⟨[.slice (.st 0), .ext 64 (.int .i64)], [(false, .int .i64)], none, fun x => f k x.1 x.2.1⟩
noncomputable def slices_IndexFunc77_c64.body : Code := Try.f77.body.getD .skip
def slices_IndexFunc77_c64.calls (k : Nat) : List (Nat × Sig E.toTys) := [(64, linpoly_New_1.sig k)]
def slices_IndexFunc77_c64.cuts : List (Cut E (RT E.toTys [(false, .int .i64)])) := [⟨true, 2, ⟨cat [.one (.val (.slice (.st 0))), .one (.val (.ext 64 (.int .i64)))] (cat (ds 5) (cat [.one (.val (.int .i64)), .one (.val (.int .i64))] (ds 10))), [], false⟩, fun k x => slices_IndexFunc77_c64.l2 k x.1.1 x.1.2.1 x.1.2.2.1 x.1.2.2.2.1⟩]
theorem slices_IndexFunc77_c64.ok (k : Nat) : Okf (XR E) Try.prog 77 (slices_IndexFunc77_c64.sig k) := ⟨fn_ok (C := fun k => tab.ctx fun f => lk f (slices_IndexFunc77_c64.calls k)) (fun k => tie _) k (fun j hj => calls_ok (kc (linpoly_New_1.ok j) (kn))) 400 Try.func77 (body := slices_IndexFunc77_c64.body) (res := [.tmp 4]) rfl (by kernel_rfl) slices_IndexFunc77_c64.cuts (kc ⟨by kernel_rfl, rfl, fun _ => rfl, fun _ _ => by kernel_rfl⟩ (kn)) (fun x => by kernel_rfl), _, Try.func77, by kernel_rfl, by kernel_rfl⟩
/-! ### slices.ContainsFunc: function 52 -/
def slices_ContainsFunc52_c64.f (k : Nat) (a0 : List S34) (a1 : Int) : Option Bool := (slices_IndexFunc77_c64.f k a0 a1).bind fun r0 => some (decide (r0 ≥ 0))
def slices_ContainsFunc52_c64.sig (k : Nat) : Sig E.toTys := ⟨[.slice (.st 0), .ext 64 (.int .i64)], [(false, .bool)], none, fun x => f k x.1 x.2.1⟩
noncomputable def slices_ContainsFunc52_c64.body : Code := Try.f52.body.getD .skip
def slices_ContainsFunc52_c64.calls (k : Nat) : List (Nat × Sig E.toTys) := [(77, slices_IndexFunc77_c64.sig k)]
def slices_ContainsFunc52_c64.cuts : List (Cut E (RT E.toTys [(false, .bool)])) := []
theorem slices_ContainsFunc52_c64.ok (k : Nat) : Okf (XR E) Try.prog 52 (slices_ContainsFunc52_c64.sig k) := ⟨fn_ok (C := fun k => tab.ctx fun f => lk f (slices_ContainsFunc52_c64.calls k)) (fun k => tie _) k (fun j hj => calls_ok (kc (slices_IndexFunc77_c64.ok j) (kn))) 400 Try.func52 (body := slices_ContainsFunc52_c64.body) (res := [.tmp 4]) rfl (by kernel_rfl) slices_ContainsFunc52_c64.cuts (kn) (fun x => by kernel_rfl), _, Try.func52, by kernel_rfl, by kernel_rfl⟩
/-! ### math/bits.Len64: function 76 -/
mutual
def math_bits_Len64.j7 : Nat → Int → Int → Option Int
  | 0, _, _ => none
  | k + 1, x0, x1 => if x0 ≥ 256 then math_bits_Len64.j10 k (shr .u64 x0 8) (wrap64 (x1 + 8)) else math_bits_Len64.j10 k x0 x1
def math_bits_Len64.j10 : Nat → Int → Int → Option Int
  | 0, _, _ => none
  | k + 1, x0, x1 => if 0 ≤ IntKind.u8.wrap x0 then (if IntKind.u8.wrap x0 < (ByteArray.size by256_793 : Int) then some (wrap64 (x1 + (wrap64 (bt by256_793 (IntKind.u8.wrap x0))))) else none) else none
end
def math_bits_Len64.f (k : Nat) (a0 : Int) : Option Int := if a0 ≥ 4294967296 then (if shr .u64 a0 32 ≥ 65536 then math_bits_Len64.j7 k (shr .u64 (shr .u64 a0 32) 16) (wrap64 ((32 : Int) + 16)) else math_bits_Len64.j7 k (shr .u64 a0 32) 32) else if a0 ≥ 65536 then math_bits_Len64.j7 k (shr .u64 a0 16) (wrap64 ((0 : Int) + 16)) else math_bits_Len64.j7 k a0 0
def math_bits_Len64.sig (k : Nat) : Sig E.toTys := ⟨[.int .u64], [(false, .int .i64)], none, fun x => f k x.1⟩
noncomputable def math_bits_Len64.body : Code := Try.f76.body.getD .skip
def math_bits_Len64.calls (k : Nat) : List (Nat × Sig E.toTys) := []
def math_bits_Len64.cuts : List (Cut E (RT E.toTys [(false, .int .i64)])) := [⟨false, 7, ⟨cat [.one (.val (.int .u64))] (cat (ds 1) (cat [.one (.val (.int .i64))] (ds 22))), [], false⟩, fun k x => math_bits_Len64.j7 k x.1.1 x.1.2.1⟩,
  ⟨false, 10, ⟨cat [.one (.val (.int .u64))] (cat (ds 1) (cat [.one (.val (.int .i64))] (ds 22))), [], false⟩, fun k x => math_bits_Len64.j10 k x.1.1 x.1.2.1⟩]
theorem math_bits_Len64.ok (k : Nat) : Okf (XR E) Try.prog 76 (math_bits_Len64.sig k) := ⟨fn_ok (C := fun k => tab.ctx fun f => lk f (math_bits_Len64.calls k)) (fun k => tie _) k (fun j hj => calls_ok (kn)) 400 Try.func76 (body := math_bits_Len64.body) (res := [.tmp 2]) rfl (by kernel_rfl) math_bits_Len64.cuts (kc ⟨by kernel_rfl, rfl, fun _ => rfl, fun _ _ => by kernel_rfl⟩ (kc ⟨by kernel_rfl, rfl, fun _ => rfl, fun _ _ => by kernel_rfl⟩ (kn))) (fun x => by kernel_rfl), _, Try.func76, by kernel_rfl, by kernel_rfl⟩
/-! ### steeple/span.lead: function 50 -/
def span_lead.f (k : Nat) (a0 : S34) : Option Int := if a0.f0 = 0 then ((math_bits_Len64.f k a0.f1).bind fun r0 => some (wrap64 (r0 - 1))) else (math_bits_Len64.f k a0.f0).bind fun r1 => some (wrap64 (63 + r1))
def span_lead.sig (k : Nat) : Sig E.toTys := ⟨[.st 0], [(false, .int .i64)], none, fun x => f k x.1⟩
noncomputable def span_lead.body : Code := Try.f50.body.getD .skip
def span_lead.calls (k : Nat) : List (Nat × Sig E.toTys) := [(76, math_bits_Len64.sig k)]
def span_lead.cuts : List (Cut E (RT E.toTys [(false, .int .i64)])) := []
theorem span_lead.ok (k : Nat) : Okf (XR E) Try.prog 50 (span_lead.sig k) := ⟨fn_ok (C := fun k => tab.ctx fun f => lk f (span_lead.calls k)) (fun k => tie _) k (fun j hj => calls_ok (kc (math_bits_Len64.ok j) (kn))) 400 Try.func50 (body := span_lead.body) (res := [.tmp 2]) rfl (by kernel_rfl) span_lead.cuts (kn) (fun x => by kernel_rfl), _, Try.func50, by kernel_rfl, by kernel_rfl⟩
/-! ### steeple/span.has: function 72 -/
def span_has.f (k : Nat) (a0 : S34) (a1 : Int) : Option Bool := (tower_Bit.f k a1).bind fun r0 => some (!decide (bits .or .u64 (bits .and .u64 a0.f1 r0.f1) (bits .and .u64 a0.f0 r0.f0) = 0))
def span_has.sig (k : Nat) : Sig E.toTys := ⟨[.st 0, .int .i64], [(false, .bool)], none, fun x => f k x.1 x.2.1⟩
noncomputable def span_has.body : Code := Try.f72.body.getD .skip
def span_has.calls (k : Nat) : List (Nat × Sig E.toTys) := [(19, tower_Bit.sig k)]
def span_has.cuts : List (Cut E (RT E.toTys [(false, .bool)])) := []
theorem span_has.ok (k : Nat) : Okf (XR E) Try.prog 72 (span_has.sig k) := ⟨fn_ok (C := fun k => tab.ctx fun f => lk f (span_has.calls k)) (fun k => tie _) k (fun j hj => calls_ok (kc (tower_Bit.ok j) (kn))) 400 Try.func72 (body := span_has.body) (res := [.tmp 4]) rfl (by kernel_rfl) span_has.cuts (kn) (fun x => by kernel_rfl), _, Try.func72, by kernel_rfl, by kernel_rfl⟩
/-! ### steeple/tower.Add: function 18 -/
def tower_Add.f (k : Nat) (a0 : S34) (a1 : S34) : Option S34 := some (⟨bits .xor .u64 a0.f0 a1.f0, bits .xor .u64 a0.f1 a1.f1⟩ : S34)
def tower_Add.sig (k : Nat) : Sig E.toTys := ⟨[.st 0, .st 0], [(false, .st 0)], none, fun x => f k x.1 x.2.1⟩
noncomputable def tower_Add.body : Code := Try.f18.body.getD .skip
def tower_Add.calls (k : Nat) : List (Nat × Sig E.toTys) := []
def tower_Add.cuts : List (Cut E (RT E.toTys [(false, .st 0)])) := []
theorem tower_Add.ok (k : Nat) : Okf (XR E) Try.prog 18 (tower_Add.sig k) := ⟨fn_ok (C := fun k => tab.ctx fun f => lk f (tower_Add.calls k)) (fun k => tie _) k (fun j hj => calls_ok (kn)) 400 Try.func18 (body := tower_Add.body) (res := [.cell 4 34]) rfl (by kernel_rfl) tower_Add.cuts (kn) (fun x => by kernel_rfl), _, Try.func18, by kernel_rfl, by kernel_rfl⟩
/-! ### steeple/span.less: function 88 -/
def span_less.l2 : Nat → List S34 → Int → Int → Int → Int → Int → Int → Option S34
  | 0, _, _, _, _, _, _, _ => none
  | k + 1, x0, x1, x2, x3, x4, x5, x6 => if x2 < x1 then (if 0 ≤ x2 then (if x2 < (x0.length : Int) then ((span_lead.f k (rd34 x0 x2)).bind fun r0 => (span_has.f k (⟨x3, x4⟩ : S34) r0).bind fun r1 => if r1 = true then ((tower_Add.f k (⟨x3, x4⟩ : S34) (rd34 x0 x2)).bind fun r2 => span_less.l2 k x0 x1 (wrap64 (x2 + 1)) r2.f0 r2.f1 x5 x6) else span_less.l2 k x0 x1 (wrap64 (x2 + 1)) x3 x4 x5 x6) else none) else none) else some (⟨x3, x4⟩ : S34)
def span_less.f (k : Nat) (a0 : List S34) (a1 : S34) : Option S34 := span_less.l2 k a0 (a0.length : Int) 0 a1.f0 a1.f1 0 0
def span_less.sig (k : Nat) : Sig E.toTys := ⟨[.slice (.st 0), .st 0], [(false, .st 0)], none, fun x => f k x.1 x.2.1⟩
noncomputable def span_less.body : Code := Try.f88.body.getD .skip
def span_less.calls (k : Nat) : List (Nat × Sig E.toTys) := [(50, span_lead.sig k), (72, span_has.sig k), (18, tower_Add.sig k)]
def span_less.cuts : List (Cut E (RT E.toTys [(false, .st 0)])) := [⟨true, 2, ⟨cat (ds 3) (cat [.one (.ptr 0 0), .one (.ptr 1 0)] (cat (ds 2) (cat [.one (.val (.slice (.st 0))), .one (.val (.int .i64)), .one (.val (.int .i64))] (ds 12)))), [.var [.val (.int .u64), .val (.int .u64)], .var [.val (.int .u64), .val (.int .u64)]], false⟩, fun k x => span_less.l2 k x.1.1 x.1.2.1 x.1.2.2.1 x.2.1.1 x.2.1.2.1 x.2.2.1.1 x.2.2.1.2.1⟩]
theorem span_less.ok (k : Nat) : Okf (XR E) Try.prog 88 (span_less.sig k) := ⟨fn_ok (C := fun k => tab.ctx fun f => lk f (span_less.calls k)) (fun k => tie _) k (fun j hj => calls_ok (kc (span_lead.ok j) (kc (span_has.ok j) (kc (tower_Add.ok j) (kn))))) 400 Try.func88 (body := span_less.body) (res := [.cell 4 34]) rfl (by kernel_rfl) span_less.cuts (kc ⟨by kernel_rfl, rfl, fun _ => rfl, fun _ _ => by kernel_rfl⟩ (kn)) (fun x => by kernel_rfl), _, Try.func88, by kernel_rfl, by kernel_rfl⟩
/-! ### steeple/span.put$1: function 90 -/
def span_put_1.f (k : Nat) (a0 : S34) (a1 : S34) : Option Int := (span_lead.f k a1).bind fun r0 => (span_lead.f k a0).bind fun r1 => some (wrap64 (r0 - r1))
def span_put_1.sig (k : Nat) : Sig E.toTys := ⟨[.st 0, .st 0], [(false, .int .i64)], none, fun x => f k x.1 x.2.1⟩
noncomputable def span_put_1.body : Code := Try.f90.body.getD .skip
def span_put_1.calls (k : Nat) : List (Nat × Sig E.toTys) := [(50, span_lead.sig k)]
def span_put_1.cuts : List (Cut E (RT E.toTys [(false, .int .i64)])) := []
theorem span_put_1.ok (k : Nat) : Okf (XR E) Try.prog 90 (span_put_1.sig k) := ⟨fn_ok (C := fun k => tab.ctx fun f => lk f (span_put_1.calls k)) (fun k => tie _) k (fun j hj => calls_ok (kc (span_lead.ok j) (kn))) 400 Try.func90 (body := span_put_1.body) (res := [.tmp 4]) rfl (by kernel_rfl) span_put_1.cuts (kn) (fun x => by kernel_rfl), _, Try.func90, by kernel_rfl, by kernel_rfl⟩
/-! ### math/bits.Len: function 92 -/
def math_bits_Len.f (k : Nat) (a0 : Int) : Option Int := (math_bits_Len64.f k a0).bind fun r0 => some r0
def math_bits_Len.sig (k : Nat) : Sig E.toTys := ⟨[.int .u64], [(false, .int .i64)], none, fun x => f k x.1⟩
noncomputable def math_bits_Len.body : Code := Try.f92.body.getD .skip
def math_bits_Len.calls (k : Nat) : List (Nat × Sig E.toTys) := [(76, math_bits_Len64.sig k)]
def math_bits_Len.cuts : List (Cut E (RT E.toTys [(false, .int .i64)])) := []
theorem math_bits_Len.ok (k : Nat) : Okf (XR E) Try.prog 92 (math_bits_Len.sig k) := ⟨fn_ok (C := fun k => tab.ctx fun f => lk f (math_bits_Len.calls k)) (fun k => tie _) k (fun j hj => calls_ok (kc (math_bits_Len64.ok j) (kn))) 400 Try.func92 (body := math_bits_Len.body) (res := [.tmp 2]) rfl (by kernel_rfl) math_bits_Len.cuts (kn) (fun x => by kernel_rfl), _, Try.func92, by kernel_rfl, by kernel_rfl⟩
/-! ### slices.insertionSortCmpFunc: function 93 -/
mutual
def slices_insertionSortCmpFunc93_c90.l1 : Nat → Int → Int → Unit → Int → List S34 → Option (List S34)
  | 0, _, _, _, _, _ => none
  | k + 1, x0, x1, x2, x3, x4 => if x3 < x1 then slices_insertionSortCmpFunc93_c90.l4 k x0 x1 x2 x3 x3 x4 else some x4
def slices_insertionSortCmpFunc93_c90.l4 : Nat → Int → Int → Unit → Int → Int → List S34 → Option (List S34)
  | 0, _, _, _, _, _, _ => none
  | k + 1, x0, x1, x2, x3, x4, x5 => if x4 > x0 then (if 0 ≤ x4 then (if x4 < (x5.length : Int) then (if 0 ≤ wrap64 (x4 - 1) then (if wrap64 (x4 - 1) < (x5.length : Int) then ((span_put_1.f k (rd34 x5 x4) (rd34 x5 (wrap64 (x4 - 1)))).bind fun r0 => if r0 < 0 then (if 0 ≤ wrap64 (x4 - 1) then (if wrap64 (x4 - 1) < (x5.length : Int) then (if 0 ≤ x4 then (if x4 < (x5.length : Int) then (if 0 ≤ x4 then (if x4 < (x5.length : Int) then (if 0 ≤ wrap64 (x4 - 1) then (if wrap64 (x4 - 1) < ((x5.set (Int.toNat x4) (rd34 x5 (wrap64 (x4 - 1)))).length : Int) then slices_insertionSortCmpFunc93_c90.l4 k x0 x1 x2 x3 (wrap64 (x4 - 1)) ((x5.set (Int.toNat x4) (rd34 x5 (wrap64 (x4 - 1)))).set (Int.toNat (wrap64 (x4 - 1))) (rd34 x5 x4)) else none) else none) else none) else none) else none) else none) else none) else none) else slices_insertionSortCmpFunc93_c90.l1 k x0 x1 x2 (wrap64 (x3 + 1)) x5) else none) else none) else none) else none) else slices_insertionSortCmpFunc93_c90.l1 k x0 x1 x2 (wrap64 (x3 + 1)) x5
end
def slices_insertionSortCmpFunc93_c90.f (k : Nat) (a0 : List S34) (a1 : Int) (a2 : Int) (a3 : Unit) : Option (List S34) := slices_insertionSortCmpFunc93_c90.l1 k a1 a2 a3 (wrap64 (a1 + 1)) a0
def slices_insertionSortCmpFunc93_c90.sig (k : Nat) : Sig E.toTys := ⟨[.slice (.st 0), .int .i64, .int .i64, .fnv 90], [(true, .slice (.st 0))], some 0, fun x => f k x.1 x.2.1 x.2.2.1 x.2.2.2.1⟩
noncomputable def slices_insertionSortCmpFunc93_c90.body : Code := Try.f93.body.getD .skip
def slices_insertionSortCmpFunc93_c90.calls (k : Nat) : List (Nat × Sig E.toTys) := [(90, span_put_1.sig k)]
def slices_insertionSortCmpFunc93_c90.cuts : List (Cut E (RT E.toTys [(true, .slice (.st 0))])) := [⟨true, 1, ⟨cat [.one (.ref 0), .one (.val (.int .i64)), .one (.val (.int .i64)), .one (.val (.fnv 90))] (cat (ds 4) (cat [.one (.val (.int .i64))] (ds 44))), [.arr (.st 0)], true⟩, fun k x => slices_insertionSortCmpFunc93_c90.l1 k x.1.1 x.1.2.1 x.1.2.2.1 x.1.2.2.2.1 x.2.1⟩,
  ⟨true, 4, ⟨cat [.one (.ref 0), .one (.val (.int .i64)), .one (.val (.int .i64)), .one (.val (.fnv 90))] (cat (ds 4) (cat [.one (.val (.int .i64)), .one (.val (.int .i64))] (ds 43))), [.arr (.st 0)], true⟩, fun k x => slices_insertionSortCmpFunc93_c90.l4 k x.1.1 x.1.2.1 x.1.2.2.1 x.1.2.2.2.1 x.1.2.2.2.2.1 x.2.1⟩]
theorem slices_insertionSortCmpFunc93_c90.ok (k : Nat) : Okf (XR E) Try.prog 93 (slices_insertionSortCmpFunc93_c90.sig k) := ⟨fn_okIO (C := fun k => tab.ctx fun f => lk f (slices_insertionSortCmpFunc93_c90.calls k)) (fun k => tie _) k (fun j hj => calls_ok (kc (span_put_1.ok j) (kn))) 400 0 Try.func93 (body := slices_insertionSortCmpFunc93_c90.body) (res := []) rfl (by kernel_rfl) slices_insertionSortCmpFunc93_c90.cuts (kc ⟨by kernel_rfl, rfl, fun _ => rfl, fun _ _ => by kernel_rfl⟩ (kc ⟨by kernel_rfl, rfl, fun _ => rfl, fun _ _ => by kernel_rfl⟩ (kn))) (fun x => by kernel_rfl), _, Try.func93, by kernel_rfl, by kernel_rfl⟩
/-! ### slices.pdqsortCmpFunc: function 91 -/
def slices_pdqsortCmpFunc91_c90.l2 : Nat → Int → Int → Int → Unit → Bool → Bool → List S34 → Option (List S34)
  | 0, _, _, _, _, _, _, _ => none
  | k + 1, x0, x1, x2, x3, x4, _, x6 => if wrap64 (x1 - x0) ≤ 12 then ((slices_insertionSortCmpFunc93_c90.f k x6 x0 x1 x3).bind fun r0 => some r0) else if x2 = 0 then none else if (!x4) = true then none else none
def slices_pdqsortCmpFunc91_c90.f (k : Nat) (a0 : List S34) (a1 : Int) (a2 : Int) (a3 : Int) (a4 : Unit) : Option (List S34) := slices_pdqsortCmpFunc91_c90.l2 k a1 a2 a3 a4 true true a0
def slices_pdqsortCmpFunc91_c90.sig (k : Nat) : Sig E.toTys := ⟨[.slice (.st 0), .int .i64, .int .i64, .int .i64, .fnv 90], [(true, .slice (.st 0))], some 0, fun x => f k x.1 x.2.1 x.2.2.1 x.2.2.2.1 x.2.2.2.2.1⟩
noncomputable def slices_pdqsortCmpFunc91_c90.body : Code := Try.f91.body.getD .skip
def slices_pdqsortCmpFunc91_c90.calls (k : Nat) : List (Nat × Sig E.toTys) := [(93, slices_insertionSortCmpFunc93_c90.sig k)]
def slices_pdqsortCmpFunc91_c90.cuts : List (Cut E (RT E.toTys [(true, .slice (.st 0))])) := [⟨true, 2, ⟨cat [.one (.ref 0), .one (.val (.int .i64)), .one (.val (.int .i64)), .one (.val (.int .i64)), .one (.val (.fnv 90))] (cat (ds 5) (cat [.one (.val (.bool)), .one (.val (.bool))] (ds 136))), [.arr (.st 0)], true⟩, fun k x => slices_pdqsortCmpFunc91_c90.l2 k x.1.1 x.1.2.1 x.1.2.2.1 x.1.2.2.2.1 x.1.2.2.2.2.1 x.1.2.2.2.2.2.1 x.2.1⟩]
theorem slices_pdqsortCmpFunc91_c90.ok (k : Nat) : Okf (XR E) Try.prog 91 (slices_pdqsortCmpFunc91_c90.sig k) := ⟨fn_okIO (C := fun k => tab.ctx fun f => lk f (slices_pdqsortCmpFunc91_c90.calls k)) (fun k => tie _) k (fun j hj => calls_ok (kc (slices_insertionSortCmpFunc93_c90.ok j) (kn))) 400 0 Try.func91 (body := slices_pdqsortCmpFunc91_c90.body) (res := []) rfl (by kernel_rfl) slices_pdqsortCmpFunc91_c90.cuts (kc ⟨by kernel_rfl, rfl, fun _ => rfl, fun _ _ => by kernel_rfl⟩ (kn)) (fun x => by kernel_rfl), _, Try.func91, by kernel_rfl, by kernel_rfl⟩
/-! ### slices.SortFunc: function 89 -/
def slices_SortFunc89_c90.f (k : Nat) (a0 : List S34) (a1 : Unit) : Option (List S34) := (math_bits_Len.f k (IntKind.u64.wrap (a0.length : Int))).bind fun r0 => (slices_pdqsortCmpFunc91_c90.f k a0 0 (a0.length : Int) r0 a1).bind fun r1 => some r1
def slices_SortFunc89_c90.sig (k : Nat) : Sig E.toTys := ⟨[.slice (.st 0), .fnv 90], [(true, .slice (.st 0))], some 0, fun x => f k x.1 x.2.1⟩
noncomputable def slices_SortFunc89_c90.body : Code := Try.f89.body.getD .skip
def slices_SortFunc89_c90.calls (k : Nat) : List (Nat × Sig E.toTys) := [(92, math_bits_Len.sig k), (91, slices_pdqsortCmpFunc91_c90.sig k)]
def slices_SortFunc89_c90.cuts : List (Cut E (RT E.toTys [(true, .slice (.st 0))])) := []
theorem slices_SortFunc89_c90.ok (k : Nat) : Okf (XR E) Try.prog 89 (slices_SortFunc89_c90.sig k) := ⟨fn_okIO (C := fun k => tab.ctx fun f => lk f (slices_SortFunc89_c90.calls k)) (fun k => tie _) k (fun j hj => calls_ok (kc (math_bits_Len.ok j) (kc (slices_pdqsortCmpFunc91_c90.ok j) (kn)))) 400 0 Try.func89 (body := slices_SortFunc89_c90.body) (res := []) rfl (by kernel_rfl) slices_SortFunc89_c90.cuts (kn) (fun x => by kernel_rfl), _, Try.func89, by kernel_rfl, by kernel_rfl⟩
/-! ### steeple/span.put: function 87 -/
def span_put.l6 : Nat → List S34 → Int → Int → Int → Int → List S34 → Option (List S34)
  | 0, _, _, _, _, _, _ => none
  | k + 1, x0, x1, x2, x3, x4, x5 => if x2 < x1 then (if 0 ≤ x2 then (if x2 < (x0.length : Int) then ((span_lead.f k (⟨x3, x4⟩ : S34)).bind fun r1 => (span_has.f k (rd34 x0 x2) r1).bind fun r2 => if r2 = true then ((tower_Add.f k (rd34 x0 x2) (⟨x3, x4⟩ : S34)).bind fun r3 => if x5.length + [r3].length ≤ 140737488355328 / 16 then span_put.l6 k x0 x1 (wrap64 (x2 + 1)) x3 x4 (x5 ++ [r3]) else none) else if x5.length + [rd34 x0 x2].length ≤ 140737488355328 / 16 then span_put.l6 k x0 x1 (wrap64 (x2 + 1)) x3 x4 (x5 ++ [rd34 x0 x2]) else none) else none) else none) else if x5.length + [(⟨x3, x4⟩ : S34)].length ≤ 140737488355328 / 16 then ((slices_SortFunc89_c90.f k (x5 ++ [(⟨x3, x4⟩ : S34)]) ()).bind fun r4 => some r4) else none
def span_put.f (k : Nat) (a0 : List S34) (a1 : S34) : Option (List S34) := (span_less.f k a0 a1).bind fun r0 => if r0.f0 = 0 ∧ r0.f1 = 0 then some a0 else span_put.l6 k a0 (a0.length : Int) 0 r0.f0 r0.f1 []
def span_put.sig (k : Nat) : Sig E.toTys := ⟨[.slice (.st 0), .st 0], [(false, .slice (.st 0))], none, fun x => f k x.1 x.2.1⟩
noncomputable def span_put.body : Code := Try.f87.body.getD .skip
def span_put.calls (k : Nat) : List (Nat × Sig E.toTys) := [(88, span_less.sig k), (50, span_lead.sig k), (72, span_has.sig k), (18, tower_Add.sig k), (89, slices_SortFunc89_c90.sig k)]
def span_put.cuts : List (Cut E (RT E.toTys [(false, .slice (.st 0))])) := [⟨true, 6, ⟨cat (ds 3) (cat [.one (.ptr 0 0)] (cat (ds 1) (cat [.one (.ref 1)] (cat (ds 9) (cat [.one (.val (.slice (.st 0))), .one (.val (.int .i64)), .one (.val (.int .i64))] (ds 22)))))), [.var [.val (.int .u64), .val (.int .u64)], .arr (.st 0)], false⟩, fun k x => span_put.l6 k x.1.1 x.1.2.1 x.1.2.2.1 x.2.1.1 x.2.1.2.1 x.2.2.1⟩]
theorem span_put.ok (k : Nat) : Okf (XR E) Try.prog 87 (span_put.sig k) := ⟨fn_ok (C := fun k => tab.ctx fun f => lk f (span_put.calls k)) (fun k => tie _) k (fun j hj => calls_ok (kc (span_less.ok j) (kc (span_lead.ok j) (kc (span_has.ok j) (kc (tower_Add.ok j) (kc (slices_SortFunc89_c90.ok j) (kn))))))) 400 Try.func87 (body := span_put.body) (res := [.tmp 4]) rfl (by kernel_rfl) span_put.cuts (kc ⟨by kernel_rfl, rfl, fun _ => rfl, fun _ _ => by kernel_rfl⟩ (kn)) (fun x => by kernel_rfl), _, Try.func87, by kernel_rfl, by kernel_rfl⟩
/-! ### steeple/span.Basis: function 83 -/
def span_Basis.l3 : Nat → List S34 → List S34 → Int → Int → Option (List S34)
  | 0, _, _, _, _ => none
  | k + 1, x0, x1, x2, x3 => if x3 < x2 then (if 0 ≤ x3 then (if x3 < (x1.length : Int) then ((span_put.f k x0 (rd34 x1 x3)).bind fun r0 => span_Basis.l3 k r0 x1 x2 (wrap64 (x3 + 1))) else none) else none) else some x0
def span_Basis.f (k : Nat) (a0 : List S34) : Option (List S34) := span_Basis.l3 k [] a0 (a0.length : Int) 0
def span_Basis.sig (k : Nat) : Sig E.toTys := ⟨[.slice (.st 0)], [(false, .slice (.st 0))], none, fun x => f k x.1⟩
noncomputable def span_Basis.body : Code := Try.f83.body.getD .skip
def span_Basis.calls (k : Nat) : List (Nat × Sig E.toTys) := [(87, span_put.sig k)]
def span_Basis.cuts : List (Cut E (RT E.toTys [(false, .slice (.st 0))])) := [⟨true, 3, ⟨cat (ds 3) (cat [.one (.val (.slice (.st 0)))] (cat (ds 2) (cat [.one (.val (.slice (.st 0))), .one (.val (.int .i64)), .one (.val (.int .i64))] (ds 8)))), [], false⟩, fun k x => span_Basis.l3 k x.1.1 x.1.2.1 x.1.2.2.1 x.1.2.2.2.1⟩]
theorem span_Basis.ok (k : Nat) : Okf (XR E) Try.prog 83 (span_Basis.sig k) := ⟨fn_ok (C := fun k => tab.ctx fun f => lk f (span_Basis.calls k)) (fun k => tie _) k (fun j hj => calls_ok (kc (span_put.ok j) (kn))) 400 Try.func83 (body := span_Basis.body) (res := [.tmp 2]) rfl (by kernel_rfl) span_Basis.cuts (kc ⟨by kernel_rfl, rfl, fun _ => rfl, fun _ _ => by kernel_rfl⟩ (kn)) (fun x => by kernel_rfl), _, Try.func83, by kernel_rfl, by kernel_rfl⟩
/-! ### steeple/span.Rank: function 65 -/
def span_Rank.f (k : Nat) (a0 : List S34) : Option Int := (span_Basis.f k a0).bind fun r0 => some (r0.length : Int)
def span_Rank.sig (k : Nat) : Sig E.toTys := ⟨[.slice (.st 0)], [(false, .int .i64)], none, fun x => f k x.1⟩
noncomputable def span_Rank.body : Code := Try.f65.body.getD .skip
def span_Rank.calls (k : Nat) : List (Nat × Sig E.toTys) := [(83, span_Basis.sig k)]
def span_Rank.cuts : List (Cut E (RT E.toTys [(false, .int .i64)])) := []
theorem span_Rank.ok (k : Nat) : Okf (XR E) Try.prog 65 (span_Rank.sig k) := ⟨fn_ok (C := fun k => tab.ctx fun f => lk f (span_Rank.calls k)) (fun k => tie _) k (fun j hj => calls_ok (kc (span_Basis.ok j) (kn))) 400 Try.func65 (body := span_Rank.body) (res := [.tmp 2]) rfl (by kernel_rfl) span_Rank.cuts (kn) (fun x => by kernel_rfl), _, Try.func65, by kernel_rfl, by kernel_rfl⟩
/-! ### slices.Clone: function 62 -/
def slices_Clone62.f (k : Nat) (a0 : List S34) : Option (List S34) := if ([] : List Int).length + a0.length ≤ 140737488355328 / 16 then some ([] ++ a0) else none
def slices_Clone62.sig (k : Nat) : Sig E.toTys := ⟨[.slice (.st 0)], [(true, .slice (.st 0))], none, fun x => f k x.1⟩
noncomputable def slices_Clone62.body : Code := Try.f62.body.getD .skip
def slices_Clone62.calls (k : Nat) : List (Nat × Sig E.toTys) := []
def slices_Clone62.cuts : List (Cut E (RT E.toTys [(true, .slice (.st 0))])) := []
noncomputable def slices_Clone62.fn0 : Func := Try.f62
def slices_Clone62.st0 (xs : List S34) : St E.toTys := ⟨[.c (.s (.val (.slice (.st 0)) xs)), .c (.s .dead), .c (.s .emp), .c (.s .dead), .c (.s .dead), .c (.s .dead), .c (.s .dead), .c (.s .dead)], []⟩
theorem slices_Clone62.ok (k : Nat) : Okf (XR E) Try.prog 62 (slices_Clone62.sig k) := ⟨clone_ok (C := tab.ctx fun f => lk f (slices_Clone62.calls k)) (tie _) (calls_ok kn) (t := 23) (u := .st 0) Try.func62 rfl (res := [.tmp 2]) (by kernel_rfl) ⟨rfl, rfl, rfl⟩ ⟨rfl, rfl, rfl⟩ (by kernel_rfl) slices_Clone62.st0 (fun x => by kernel_rfl) (fun _ => rfl) (fun _ _ => ⟨rfl, rfl⟩) (F := fun x => slices_Clone62.f k x) (by kernel_rfl) (fun xs => by kernel_rfl), _, Try.func62, by kernel_rfl, by kernel_rfl⟩
/-! ### steeple/tower.halves: function 47 -/
def tower_halves.f (k : Nat) (a0 : Int) (a1 : Int) : Option (Int × Int) := if 0 ≤ wrap64 (a0 - 1) then (if 0 ≤ shl .i64 1 (wrap64 (a0 - 1)) then (if 0 ≤ shl .i64 1 (wrap64 (a0 - 1)) then some (shr .u64 a1 (shl .i64 1 (wrap64 (a0 - 1))), bits .and .u64 a1 (IntKind.u64.wrap ((shl .u64 1 (shl .i64 1 (wrap64 (a0 - 1)))) - 1))) else none) else none) else none
def tower_halves.sig (k : Nat) : Sig E.toTys := ⟨[.int .i64, .int .u64], [(false, .int .u64), (false, .int .u64)], none, fun x => f k x.1 x.2.1⟩
noncomputable def tower_halves.body : Code := Try.f47.body.getD .skip
def tower_halves.calls (k : Nat) : List (Nat × Sig E.toTys) := []
def tower_halves.cuts : List (Cut E (RT E.toTys [(false, .int .u64), (false, .int .u64)])) := []
theorem tower_halves.ok (k : Nat) : Okf (XR E) Try.prog 47 (tower_halves.sig k) := ⟨fn_ok (C := fun k => tab.ctx fun f => lk f (tower_halves.calls k)) (fun k => tie _) k (fun j hj => calls_ok (kn)) 400 Try.func47 (body := tower_halves.body) (res := [.tmp 4, .tmp 5]) rfl (by kernel_rfl) tower_halves.cuts (kn) (fun x => by kernel_rfl), _, Try.func47, by kernel_rfl, by kernel_rfl⟩
/-! ### steeple/tower.join: function 48 -/
def tower_join.f (k : Nat) (a0 : Int) (a1 : Int) (a2 : Int) : Option Int := if 0 ≤ wrap64 (a0 - 1) then (if 0 ≤ shl .u64 1 (wrap64 (a0 - 1)) then some (bits .or .u64 (shl .u64 a1 (shl .u64 1 (wrap64 (a0 - 1)))) a2) else none) else none
def tower_join.sig (k : Nat) : Sig E.toTys := ⟨[.int .i64, .int .u64, .int .u64], [(false, .int .u64)], none, fun x => f k x.1 x.2.1 x.2.2.1⟩
noncomputable def tower_join.body : Code := Try.f48.body.getD .skip
def tower_join.calls (k : Nat) : List (Nat × Sig E.toTys) := []
def tower_join.cuts : List (Cut E (RT E.toTys [(false, .int .u64)])) := []
theorem tower_join.ok (k : Nat) : Okf (XR E) Try.prog 48 (tower_join.sig k) := ⟨fn_ok (C := fun k => tab.ctx fun f => lk f (tower_join.calls k)) (fun k => tie _) k (fun j hj => calls_ok (kn)) 400 Try.func48 (body := tower_join.body) (res := [.tmp 6]) rfl (by kernel_rfl) tower_join.cuts (kn) (fun x => by kernel_rfl), _, Try.func48, by kernel_rfl, by kernel_rfl⟩
/-! ### steeple/tower.mulX: function 30 -/
def tower_mulX.f : Nat → Int → Int → Option Int
  | 0, _, _ => none
  | k + 1, a0, a1 => if a0 = 0 then some a1 else (tower_halves.f k a0 a1).bind fun r0 => (tower_mulX.f k (wrap64 (a0 - 1)) r0.1).bind fun r1 => (tower_join.f k a0 (bits .xor .u64 r0.2 r1) r0.1).bind fun r2 => some r2
def tower_mulX.sig (k : Nat) : Sig E.toTys := ⟨[.int .i64, .int .u64], [(false, .int .u64)], none, fun x => f k x.1 x.2.1⟩
noncomputable def tower_mulX.body : Code := Try.f30.body.getD .skip
def tower_mulX.calls (k : Nat) : List (Nat × Sig E.toTys) := [(47, tower_halves.sig k), (30, tower_mulX.sig k), (48, tower_join.sig k)]
def tower_mulX.cuts : List (Cut E (RT E.toTys [(false, .int .u64)])) := []
theorem tower_mulX.oks (k : Nat) : Okf (XR E) Try.prog 30 (tower_mulX.sig k) := by
  induction k using Nat.strongRecOn with
  | ind k ih =>
  cases k with
  | zero => exact ⟨ok0 fun _ => rfl, _, Try.func30, by kernel_rfl, by kernel_rfl⟩
  | succ k => exact ⟨fn_ok (C := fun k => tab.ctx fun f => lk f (tower_mulX.calls k)) (fun k => tie _) k (fun j hj => calls_ok (kc (tower_halves.ok j) (kc (ih j (Nat.lt_succ_of_le hj)) (kc (tower_join.ok j) (kn))))) 400 Try.func30 (body := tower_mulX.body) (res := [.tmp 4]) rfl (by kernel_rfl) tower_mulX.cuts (kn) (fun x => by kernel_rfl), _, Try.func30, by kernel_rfl, by kernel_rfl⟩
theorem tower_mulX.ok (k : Nat) : Okf (XR E) Try.prog 30 (tower_mulX.sig k) := (tower_mulX.oks k)
/-! ### steeple/tower.mul: function 29 -/
mutual
def tower_mul.j2 : Nat → Int → Int → Option Int
  | 0, _, _ => none
  | k + 1, x0, x1 => some (bits .and .u64 (bits .and .u64 x0 x1) 1)
def tower_mul.f : Nat → Int → Int → Int → Option Int
  | 0, _, _, _ => none
  | k + 1, a0, a1, a2 => if a0 = 0 then tower_mul.j2 k a1 a2 else if a1 = 0 then tower_mul.j2 k a1 a2 else if a2 = 0 then tower_mul.j2 k a1 a2 else (tower_halves.f k a0 a1).bind fun r0 => (tower_halves.f k a0 a2).bind fun r1 => (tower_mul.f k (wrap64 (a0 - 1)) r0.1 r1.1).bind fun r2 => (tower_mul.f k (wrap64 (a0 - 1)) r0.2 r1.2).bind fun r3 => (tower_mul.f k (wrap64 (a0 - 1)) (bits .xor .u64 r0.1 r0.2) (bits .xor .u64 r1.1 r1.2)).bind fun r4 => (tower_mulX.f k (wrap64 (a0 - 1)) r2).bind fun r5 => (tower_join.f k a0 (bits .xor .u64 (bits .xor .u64 (bits .xor .u64 r4 r2) r3) r5) (bits .xor .u64 r3 r2)).bind fun r6 => some r6
end
def tower_mul.sig (k : Nat) : Sig E.toTys := ⟨[.int .i64, .int .u64, .int .u64], [(false, .int .u64)], none, fun x => f k x.1 x.2.1 x.2.2.1⟩
noncomputable def tower_mul.body : Code := Try.f29.body.getD .skip
def tower_mul.calls (k : Nat) : List (Nat × Sig E.toTys) := [(47, tower_halves.sig k), (29, tower_mul.sig k), (30, tower_mulX.sig k), (48, tower_join.sig k)]
def tower_mul.cuts : List (Cut E (RT E.toTys [(false, .int .u64)])) := [⟨false, 2, ⟨cat (ds 1) (cat [.one (.val (.int .u64)), .one (.val (.int .u64))] (ds 71)), [], false⟩, fun k x => tower_mul.j2 k x.1.1 x.1.2.1⟩]
theorem tower_mul.oks (k : Nat) : Okf (XR E) Try.prog 29 (tower_mul.sig k) := by
  induction k using Nat.strongRecOn with
  | ind k ih =>
  cases k with
  | zero => exact ⟨ok0 fun _ => rfl, _, Try.func29, by kernel_rfl, by kernel_rfl⟩
  | succ k => exact ⟨fn_ok (C := fun k => tab.ctx fun f => lk f (tower_mul.calls k)) (fun k => tie _) k (fun j hj => calls_ok (kc (tower_halves.ok j) (kc (ih j (Nat.lt_succ_of_le hj)) (kc (tower_mulX.ok j) (kc (tower_join.ok j) (kn)))))) 400 Try.func29 (body := tower_mul.body) (res := [.tmp 6]) rfl (by kernel_rfl) tower_mul.cuts (kc ⟨by kernel_rfl, rfl, fun _ => rfl, fun _ _ => by kernel_rfl⟩ (kn)) (fun x => by kernel_rfl), _, Try.func29, by kernel_rfl, by kernel_rfl⟩
theorem tower_mul.ok (k : Nat) : Okf (XR E) Try.prog 29 (tower_mul.sig k) := (tower_mul.oks k)
/-! ### steeple/tower.Mul: function 10 -/
def tower_Mul.f (k : Nat) (a0 : Int) (a1 : S34) (a2 : S34) : Option S34 := (octet_Of.f k a0 a1).bind fun r0 => if (!r0) = true then some (⟨0, 0⟩ : S34) else (octet_Of.f k a0 a2).bind fun r1 => if (!r1) = true then some (⟨0, 0⟩ : S34) else if a0 ≤ 6 then ((tower_mul.f k a0 a1.f1 a2.f1).bind fun r2 => some (⟨0, r2⟩ : S34)) else (tower_mul.f k 6 a1.f0 a2.f0).bind fun r3 => (tower_mul.f k 6 a1.f1 a2.f1).bind fun r4 => (tower_mul.f k 6 (bits .xor .u64 a1.f0 a1.f1) (bits .xor .u64 a2.f0 a2.f1)).bind fun r5 => (tower_mulX.f k 6 r3).bind fun r6 => some (⟨bits .xor .u64 (bits .xor .u64 (bits .xor .u64 r5 r3) r4) r6, bits .xor .u64 r4 r3⟩ : S34)
def tower_Mul.sig (k : Nat) : Sig E.toTys := ⟨[.int .i64, .st 0, .st 0], [(false, .st 0)], none, fun x => f k x.1 x.2.1 x.2.2.1⟩
noncomputable def tower_Mul.body : Code := Try.f10.body.getD .skip
def tower_Mul.calls (k : Nat) : List (Nat × Sig E.toTys) := [(28, octet_Of.sig k), (29, tower_mul.sig k), (30, tower_mulX.sig k)]
def tower_Mul.cuts : List (Cut E (RT E.toTys [(false, .st 0)])) := []
theorem tower_Mul.ok (k : Nat) : Okf (XR E) Try.prog 10 (tower_Mul.sig k) := ⟨fn_ok (C := fun k => tab.ctx fun f => lk f (tower_Mul.calls k)) (fun k => tie _) k (fun j hj => calls_ok (kc (octet_Of.ok j) (kc (tower_mul.ok j) (kc (tower_mulX.ok j) (kn))))) 400 Try.func10 (body := tower_Mul.body) (res := [.cell 6 34]) rfl (by kernel_rfl) tower_Mul.cuts (kn) (fun x => by kernel_rfl), _, Try.func10, by kernel_rfl, by kernel_rfl⟩
/-! ### (*steeple/linpoly.Space).value: function 66 -/
def linpoly_Space_value.j2 : Nat → Option S77 → Int → Int → Int → Int → Int → Int → Option S34
  | 0, _, _, _, _, _, _, _ => none
  | k + 1, x0, x1, x2, x3, x4, x5, x6 => if x2 < x1 then ((match x0 with | none => none | some r0 => (match x0 with | none => none | some r1 => if 0 ≤ x2 then (if x2 < (r1.f2.length : Int) then ((tower_Add.f k (⟨x3, x4⟩ : S34) (rd34 r1.f2 x2)).bind fun r2 => (tower_Mul.f k r0.f0 (⟨x3, x4⟩ : S34) r2).bind fun r3 => linpoly_Space_value.j2 k x0 x1 (wrap64 (x2 + 1)) r3.f0 r3.f1 x5 x6) else none) else none))) else some (⟨x3, x4⟩ : S34)
def linpoly_Space_value.f (k : Nat) (a0 : Option S77) (a1 : Int) (a2 : S34) : Option S34 := linpoly_Space_value.j2 k a0 a1 0 a2.f0 a2.f1 0 0
def linpoly_Space_value.sig (k : Nat) : Sig E.toTys := ⟨[.ptr (.st 2), .int .i64, .st 0], [(false, .st 0)], none, fun x => f k x.1 x.2.1 x.2.2.1⟩
noncomputable def linpoly_Space_value.body : Code := Try.f66.body.getD .skip
def linpoly_Space_value.calls (k : Nat) : List (Nat × Sig E.toTys) := [(18, tower_Add.sig k), (10, tower_Mul.sig k)]
def linpoly_Space_value.cuts : List (Cut E (RT E.toTys [(false, .st 0)])) := [⟨false, 2, ⟨cat [.one (.val (.ptr (.st 2))), .one (.val (.int .i64))] (cat (ds 3) (cat [.one (.ptr 0 0), .one (.ptr 1 0), .one (.val (.int .i64))] (ds 21))), [.var [.val (.int .u64), .val (.int .u64)], .var [.val (.int .u64), .val (.int .u64)]], false⟩, fun k x => linpoly_Space_value.j2 k x.1.1 x.1.2.1 x.1.2.2.1 x.2.1.1 x.2.1.2.1 x.2.2.1.1 x.2.2.1.2.1⟩]
theorem linpoly_Space_value.ok (k : Nat) : Okf (XR E) Try.prog 66 (linpoly_Space_value.sig k) := ⟨fn_ok (C := fun k => tab.ctx fun f => lk f (linpoly_Space_value.calls k)) (fun k => tie _) k (fun j hj => calls_ok (kc (tower_Add.ok j) (kc (tower_Mul.ok j) (kn)))) 400 Try.func66 (body := linpoly_Space_value.body) (res := [.cell 6 34]) rfl (by kernel_rfl) linpoly_Space_value.cuts (kc ⟨by kernel_rfl, rfl, fun _ => rfl, fun _ _ => by kernel_rfl⟩ (kn)) (fun x => by kernel_rfl), _, Try.func66, by kernel_rfl, by kernel_rfl⟩
/-! ### steeple/tower.square: function 74 -/
def tower_square.f : Nat → Int → Int → Option Int
  | 0, _, _ => none
  | k + 1, a0, a1 => if a0 = 0 then some a1 else (tower_halves.f k a0 a1).bind fun r0 => (tower_square.f k (wrap64 (a0 - 1)) r0.1).bind fun r1 => (tower_mulX.f k (wrap64 (a0 - 1)) r1).bind fun r2 => (tower_square.f k (wrap64 (a0 - 1)) r0.2).bind fun r3 => (tower_join.f k a0 r2 (bits .xor .u64 r3 r1)).bind fun r4 => some r4
def tower_square.sig (k : Nat) : Sig E.toTys := ⟨[.int .i64, .int .u64], [(false, .int .u64)], none, fun x => f k x.1 x.2.1⟩
noncomputable def tower_square.body : Code := Try.f74.body.getD .skip
def tower_square.calls (k : Nat) : List (Nat × Sig E.toTys) := [(47, tower_halves.sig k), (74, tower_square.sig k), (30, tower_mulX.sig k), (48, tower_join.sig k)]
def tower_square.cuts : List (Cut E (RT E.toTys [(false, .int .u64)])) := []
theorem tower_square.oks (k : Nat) : Okf (XR E) Try.prog 74 (tower_square.sig k) := by
  induction k using Nat.strongRecOn with
  | ind k ih =>
  cases k with
  | zero => exact ⟨ok0 fun _ => rfl, _, Try.func74, by kernel_rfl, by kernel_rfl⟩
  | succ k => exact ⟨fn_ok (C := fun k => tab.ctx fun f => lk f (tower_square.calls k)) (fun k => tie _) k (fun j hj => calls_ok (kc (tower_halves.ok j) (kc (ih j (Nat.lt_succ_of_le hj)) (kc (tower_mulX.ok j) (kc (tower_join.ok j) (kn)))))) 400 Try.func74 (body := tower_square.body) (res := [.tmp 4]) rfl (by kernel_rfl) tower_square.cuts (kn) (fun x => by kernel_rfl), _, Try.func74, by kernel_rfl, by kernel_rfl⟩
theorem tower_square.ok (k : Nat) : Okf (XR E) Try.prog 74 (tower_square.sig k) := (tower_square.oks k)
/-! ### steeple/tower.inv: function 84 -/
def tower_inv.f : Nat → Int → Int → Option Int
  | 0, _, _ => none
  | k + 1, a0, a1 => if a0 = 0 then some a1 else (tower_halves.f k a0 a1).bind fun r0 => (tower_mulX.f k (wrap64 (a0 - 1)) r0.1).bind fun r1 => (tower_mul.f k (wrap64 (a0 - 1)) r0.2 (bits .xor .u64 r0.2 r1)).bind fun r2 => (tower_square.f k (wrap64 (a0 - 1)) r0.1).bind fun r3 => (tower_inv.f k (wrap64 (a0 - 1)) (bits .xor .u64 r2 r3)).bind fun r4 => (tower_mul.f k (wrap64 (a0 - 1)) r0.1 r4).bind fun r5 => (tower_mul.f k (wrap64 (a0 - 1)) (bits .xor .u64 r0.2 r1) r4).bind fun r6 => (tower_join.f k a0 r5 r6).bind fun r7 => some r7
def tower_inv.sig (k : Nat) : Sig E.toTys := ⟨[.int .i64, .int .u64], [(false, .int .u64)], none, fun x => f k x.1 x.2.1⟩
noncomputable def tower_inv.body : Code := Try.f84.body.getD .skip
def tower_inv.calls (k : Nat) : List (Nat × Sig E.toTys) := [(47, tower_halves.sig k), (30, tower_mulX.sig k), (29, tower_mul.sig k), (74, tower_square.sig k), (84, tower_inv.sig k), (48, tower_join.sig k)]
def tower_inv.cuts : List (Cut E (RT E.toTys [(false, .int .u64)])) := []
theorem tower_inv.oks (k : Nat) : Okf (XR E) Try.prog 84 (tower_inv.sig k) := by
  induction k using Nat.strongRecOn with
  | ind k ih =>
  cases k with
  | zero => exact ⟨ok0 fun _ => rfl, _, Try.func84, by kernel_rfl, by kernel_rfl⟩
  | succ k => exact ⟨fn_ok (C := fun k => tab.ctx fun f => lk f (tower_inv.calls k)) (fun k => tie _) k (fun j hj => calls_ok (kc (tower_halves.ok j) (kc (tower_mulX.ok j) (kc (tower_mul.ok j) (kc (tower_square.ok j) (kc (ih j (Nat.lt_succ_of_le hj)) (kc (tower_join.ok j) (kn)))))))) 400 Try.func84 (body := tower_inv.body) (res := [.tmp 4]) rfl (by kernel_rfl) tower_inv.cuts (kn) (fun x => by kernel_rfl), _, Try.func84, by kernel_rfl, by kernel_rfl⟩
theorem tower_inv.ok (k : Nat) : Okf (XR E) Try.prog 84 (tower_inv.sig k) := (tower_inv.oks k)
/-! ### steeple/tower.Inv: function 67 -/
def tower_Inv.f (k : Nat) (a0 : Int) (a1 : S34) : Option S34 := (octet_Of.f k a0 a1).bind fun r0 => if (!r0) = true then some (⟨0, 0⟩ : S34) else if a0 ≤ 6 then ((tower_inv.f k a0 a1.f1).bind fun r1 => some (⟨0, r1⟩ : S34)) else (tower_mulX.f k 6 a1.f0).bind fun r2 => (tower_mul.f k 6 a1.f1 (bits .xor .u64 a1.f1 r2)).bind fun r3 => (tower_square.f k 6 a1.f0).bind fun r4 => (tower_inv.f k 6 (bits .xor .u64 r3 r4)).bind fun r5 => (tower_mul.f k 6 a1.f0 r5).bind fun r6 => (tower_mul.f k 6 (bits .xor .u64 a1.f1 r2) r5).bind fun r7 => some (⟨r6, r7⟩ : S34)
def tower_Inv.sig (k : Nat) : Sig E.toTys := ⟨[.int .i64, .st 0], [(false, .st 0)], none, fun x => f k x.1 x.2.1⟩
noncomputable def tower_Inv.body : Code := Try.f67.body.getD .skip
def tower_Inv.calls (k : Nat) : List (Nat × Sig E.toTys) := [(28, octet_Of.sig k), (84, tower_inv.sig k), (30, tower_mulX.sig k), (29, tower_mul.sig k), (74, tower_square.sig k)]
def tower_Inv.cuts : List (Cut E (RT E.toTys [(false, .st 0)])) := []
theorem tower_Inv.ok (k : Nat) : Okf (XR E) Try.prog 67 (tower_Inv.sig k) := ⟨fn_ok (C := fun k => tab.ctx fun f => lk f (tower_Inv.calls k)) (fun k => tie _) k (fun j hj => calls_ok (kc (octet_Of.ok j) (kc (tower_inv.ok j) (kc (tower_mulX.ok j) (kc (tower_mul.ok j) (kc (tower_square.ok j) (kn))))))) 400 Try.func67 (body := tower_Inv.body) (res := [.cell 4 34]) rfl (by kernel_rfl) tower_Inv.cuts (kn) (fun x => by kernel_rfl), _, Try.func67, by kernel_rfl, by kernel_rfl⟩
/-! ### steeple/linpoly.New: function 40 -/
def linpoly_New.l11 : Nat → List S34 → Int → Int → Int → Int → List S34 → List S34 → List S34 → Option ((Option S77) × Int)
  | 0, _, _, _, _, _, _, _, _ => none
  | k + 1, x0, x1, x2, x3, x4, x5, x6, x7 => if x2 < x1 then (if 0 ≤ x2 then (if x2 < (x0.length : Int) then ((linpoly_Space_value.f k (some (⟨x4, x5, x6, x7⟩ : S77)) x2 (rd34 x0 x2)).bind fun r4 => if x6.length + [r4].length ≤ 140737488355328 / 16 then ((tower_Inv.f k x3 r4).bind fun r5 => if x7.length + [r5].length ≤ 140737488355328 / 16 then linpoly_New.l11 k x0 x1 (wrap64 (x2 + 1)) x3 x4 x5 (x6 ++ [r4]) (x7 ++ [r5]) else none) else none) else none) else none) else some (some (⟨x4, x5, x6, x7⟩ : S77), 0)
def linpoly_New.f (k : Nat) (a0 : Int) (a1 : List S34) : Option ((Option S77) × Int) := (octet_Wide.f k a0).bind fun r0 => if r0 = 0 then some (none, 1) else if (a1.length : Int) > 10 then some (none, 2) else (slices_ContainsFunc52_c64.f k a1 a0).bind fun r1 => if r1 = true then some (none, 5) else (span_Rank.f k a1).bind fun r2 => if r2 < (a1.length : Int) then some (none, 7) else (slices_Clone62.f k a1).bind fun r3 => linpoly_New.l11 k a1 (a1.length : Int) 0 a0 a0 r3 [] []
def linpoly_New.sig (k : Nat) : Sig E.toTys := ⟨[.int .i64, .slice (.st 0)], [(false, .ptr (.st 2)), (false, .int .i64)], none, fun x => f k x.1 x.2.1⟩
noncomputable def linpoly_New.body : Code := Try.f40.body.getD .skip
def linpoly_New.calls (k : Nat) : List (Nat × Sig E.toTys) := [(24, octet_Wide.sig k), (52, slices_ContainsFunc52_c64.sig k), (65, span_Rank.sig k), (62, slices_Clone62.sig k), (66, linpoly_Space_value.sig k), (67, tower_Inv.sig k)]
def linpoly_New.cuts : List (Cut E (RT E.toTys [(false, .ptr (.st 2)), (false, .int .i64)])) := [⟨true, 11, ⟨cat (ds 2) (cat [.one (.ptr 0 0)] (cat (ds 3) (cat [.one (.ptr 1 0)] (cat (ds 26) (cat [.one (.val (.slice (.st 0))), .one (.val (.int .i64)), .one (.val (.int .i64))] (ds 32)))))), [.var [.val (.int .i64)], .var [.val (.int .i64), .ref 2, .ref 3, .ref 4], .arr (.st 0), .arr (.st 0), .arr (.st 0)], false⟩, fun k x => linpoly_New.l11 k x.1.1 x.1.2.1 x.1.2.2.1 x.2.1.1 x.2.2.1.1 x.2.2.2.1 x.2.2.2.2.1 x.2.2.2.2.2.1⟩]
theorem linpoly_New.ok (k : Nat) : Okf (XR E) Try.prog 40 (linpoly_New.sig k) := ⟨fn_ok (C := fun k => (tab.ctx fun f => lk f (linpoly_New.calls k)).pmd [(14, 5, [1]), (14, 6, [6]), (14, 7, []), (14, 8, [3]), (14, 12, [1]), (14, 13, [0]), (14, 14, [6]), (14, 15, []), (14, 16, []), (14, 17, [4]), (14, 20, [1]), (14, 23, [1])]) (fun k => (tie _).pmd _) k (fun j hj => (calls_ok (kc (octet_Wide.ok j) (kc (slices_ContainsFunc52_c64.ok j) (kc (span_Rank.ok j) (kc (slices_Clone62.ok j) (kc (linpoly_Space_value.ok j) (kc (tower_Inv.ok j) (kn)))))))).pmd _) 400 Try.func40 (body := linpoly_New.body) (res := [.tmp 4, .tmp 5]) rfl (by kernel_rfl) linpoly_New.cuts (kc ⟨by kernel_rfl, rfl, fun _ => rfl, fun _ _ => by kernel_rfl⟩ (kn)) (fun x => by kernel_rfl), _, Try.func40, by kernel_rfl, by kernel_rfl⟩
/-! ### steeple/linpoly.Plain: function 20 -/
def linpoly_Plain.l9 : Nat → Int → Int → Int → List S34 → Option ((Option S77) × Int)
  | 0, _, _, _, _ => none
  | k + 1, x0, x1, x2, x3 => if x2 < x1 then ((tower_Bit.f k x2).bind fun r1 => if x3.length + [r1].length ≤ 140737488355328 / 16 then linpoly_Plain.l9 k x0 x1 (wrap64 (x2 + 1)) (x3 ++ [r1]) else none) else (linpoly_New.f k x0 x3).bind fun r2 => some (r2.1, r2.2)
def linpoly_Plain.f (k : Nat) (a0 : Int) (a1 : Int) : Option ((Option S77) × Int) := (octet_Wide.f k a0).bind fun r0 => if r0 = 0 then some (none, 1) else if a1 < 0 then some (none, 1) else if a1 > 10 then some (none, 2) else if 0 ≤ a0 then (if a1 > shl .i64 1 a0 then some (none, 7) else linpoly_Plain.l9 k a0 a1 0 []) else none
def linpoly_Plain.sig (k : Nat) : Sig E.toTys := ⟨[.int .i64, .int .i64], [(false, .ptr (.st 2)), (false, .int .i64)], none, fun x => f k x.1 x.2.1⟩
noncomputable def linpoly_Plain.body : Code := Try.f20.body.getD .skip
def linpoly_Plain.calls (k : Nat) : List (Nat × Sig E.toTys) := [(24, octet_Wide.sig k), (19, tower_Bit.sig k), (40, linpoly_New.sig k)]
def linpoly_Plain.cuts : List (Cut E (RT E.toTys [(false, .ptr (.st 2)), (false, .int .i64)])) := [⟨true, 9, ⟨cat [.one (.val (.int .i64))] (cat (ds 5) (cat [.one (.ref 0)] (cat (ds 17) (cat [.one (.val (.int .i64)), .one (.val (.int .i64))] (ds 13))))), [.arr (.st 0)], false⟩, fun k x => linpoly_Plain.l9 k x.1.1 x.1.2.1 x.1.2.2.1 x.2.1⟩]
theorem linpoly_Plain.ok (k : Nat) : Okf (XR E) Try.prog 20 (linpoly_Plain.sig k) := ⟨fn_ok (C := fun k => tab.ctx fun f => lk f (linpoly_Plain.calls k)) (fun k => tie _) k (fun j hj => calls_ok (kc (octet_Wide.ok j) (kc (tower_Bit.ok j) (kc (linpoly_New.ok j) (kn))))) 400 Try.func20 (body := linpoly_Plain.body) (res := [.tmp 4, .tmp 5]) rfl (by kernel_rfl) linpoly_Plain.cuts (kc ⟨by kernel_rfl, rfl, fun _ => rfl, fun _ _ => by kernel_rfl⟩ (kn)) (fun x => by kernel_rfl), _, Try.func20, by kernel_rfl, by kernel_rfl⟩
/-! ### steeple/span.Point: function 41 -/
mutual
def span_Point.l3 : Nat → List S34 → Int → Int → Int → Int → Int → Int → Int → Option S34
  | 0, _, _, _, _, _, _, _, _ => none
  | k + 1, x0, x1, x2, x3, x4, x5, x6, x7 => if x3 < x2 then (if x1 > 0 then (if 0 ≤ x3 then (if bits .and .i64 (shr .i64 x1 x3) 1 = 1 then (if 0 ≤ x3 then (if x3 < (x0.length : Int) then ((tower_Add.f k (⟨x6, x7⟩ : S34) (rd34 x0 x3)).bind fun r0 => span_Point.j7 k x0 x1 x2 x3 x4 x5 r0.f0 r0.f1) else none) else none) else span_Point.j7 k x0 x1 x2 x3 x4 x5 x6 x7) else none) else span_Point.j7 k x0 x1 x2 x3 x4 x5 x6 x7) else some (⟨x6, x7⟩ : S34)
def span_Point.j7 : Nat → List S34 → Int → Int → Int → Int → Int → Int → Int → Option S34
  | 0, _, _, _, _, _, _, _, _ => none
  | k + 1, x0, x1, x2, x3, x4, x5, x6, x7 => span_Point.l3 k x0 x1 x2 (wrap64 (x3 + 1)) x4 x5 x6 x7
end
def span_Point.f (k : Nat) (a0 : List S34) (a1 : Int) : Option S34 := span_Point.l3 k a0 a1 (if 62 < (a0.length : Int) then (62 : Int) else (a0.length : Int)) 0 0 0 0 0
def span_Point.sig (k : Nat) : Sig E.toTys := ⟨[.slice (.st 0), .int .i64], [(false, .st 0)], none, fun x => f k x.1 x.2.1⟩
noncomputable def span_Point.body : Code := Try.f41.body.getD .skip
def span_Point.calls (k : Nat) : List (Nat × Sig E.toTys) := [(18, tower_Add.sig k)]
def span_Point.cuts : List (Cut E (RT E.toTys [(false, .st 0)])) := [⟨true, 3, ⟨cat [.one (.val (.slice (.st 0))), .one (.val (.int .i64))] (cat (ds 2) (cat [.one (.ptr 0 0), .one (.ptr 1 0)] (cat (ds 3) (cat [.one (.val (.int .i64)), .one (.val (.int .i64))] (ds 19))))), [.var [.val (.int .u64), .val (.int .u64)], .var [.val (.int .u64), .val (.int .u64)]], false⟩, fun k x => span_Point.l3 k x.1.1 x.1.2.1 x.1.2.2.1 x.1.2.2.2.1 x.2.1.1 x.2.1.2.1 x.2.2.1.1 x.2.2.1.2.1⟩,
  ⟨false, 7, ⟨cat [.one (.val (.slice (.st 0))), .one (.val (.int .i64))] (cat (ds 2) (cat [.one (.ptr 0 0), .one (.ptr 1 0)] (cat (ds 3) (cat [.one (.val (.int .i64)), .one (.val (.int .i64))] (ds 19))))), [.var [.val (.int .u64), .val (.int .u64)], .var [.val (.int .u64), .val (.int .u64)]], false⟩, fun k x => span_Point.j7 k x.1.1 x.1.2.1 x.1.2.2.1 x.1.2.2.2.1 x.2.1.1 x.2.1.2.1 x.2.2.1.1 x.2.2.1.2.1⟩]
theorem span_Point.ok (k : Nat) : Okf (XR E) Try.prog 41 (span_Point.sig k) := ⟨fn_ok (C := fun k => tab.ctx fun f => lk f (span_Point.calls k)) (fun k => tie _) k (fun j hj => calls_ok (kc (tower_Add.ok j) (kn))) 400 Try.func41 (body := span_Point.body) (res := [.cell 4 34]) rfl (by kernel_rfl) span_Point.cuts (kc ⟨by kernel_rfl, rfl, fun _ => rfl, fun _ _ => by kernel_rfl⟩ (kc ⟨by kernel_rfl, rfl, fun _ => rfl, fun _ _ => by kernel_rfl⟩ (kn))) (fun x => by kernel_rfl), _, Try.func41, by kernel_rfl, by kernel_rfl⟩
/-! ### (*steeple/linpoly.Space).Point: function 21 -/
def linpoly_Space_Point.j2 : Nat → Int → Int → Option S34
  | 0, _, _ => none
  | k + 1, _, _ => some (⟨0, 0⟩ : S34)
def linpoly_Space_Point.f (k : Nat) (a0 : Option S77) (a1 : Int) : Option S34 := (match a0 with | none => linpoly_Space_Point.j2 k 0 0 | some _ => if a1 < 0 then linpoly_Space_Point.j2 k 0 0 else (match a0 with | none => none | some r0 => if 0 ≤ (r0.f1.length : Int) then (if a1 ≥ shl .i64 1 (r0.f1.length : Int) then linpoly_Space_Point.j2 k 0 0 else (match a0 with | none => none | some r1 => (span_Point.f k r1.f1 a1).bind fun r2 => some r2)) else none))
def linpoly_Space_Point.sig (k : Nat) : Sig E.toTys := ⟨[.ptr (.st 2), .int .i64], [(false, .st 0)], none, fun x => f k x.1 x.2.1⟩
noncomputable def linpoly_Space_Point.body : Code := Try.f21.body.getD .skip
def linpoly_Space_Point.calls (k : Nat) : List (Nat × Sig E.toTys) := [(41, span_Point.sig k)]
def linpoly_Space_Point.cuts : List (Cut E (RT E.toTys [(false, .st 0)])) := [⟨false, 2, ⟨cat (ds 4) (cat [.one (.ptr 0 0)] (ds 23)), [.var [.val (.int .u64), .val (.int .u64)]], false⟩, fun k x => linpoly_Space_Point.j2 k x.2.1.1 x.2.1.2.1⟩]
theorem linpoly_Space_Point.ok (k : Nat) : Okf (XR E) Try.prog 21 (linpoly_Space_Point.sig k) := ⟨fn_ok (C := fun k => tab.ctx fun f => lk f (linpoly_Space_Point.calls k)) (fun k => tie _) k (fun j hj => calls_ok (kc (span_Point.ok j) (kn))) 400 Try.func21 (body := linpoly_Space_Point.body) (res := [.cell 4 34]) rfl (by kernel_rfl) linpoly_Space_Point.cuts (kc ⟨by kernel_rfl, rfl, fun _ => rfl, fun _ _ => by kernel_rfl⟩ (kn)) (fun x => by kernel_rfl), _, Try.func21, by kernel_rfl, by kernel_rfl⟩
/-! ### steeple/steepletop.fine: function 5 -/
def steepletop_fine.f (k : Nat) : Option Bool := (linpoly_Plain.f k 2 2).bind fun r0 => if r0.2 = 0 then ((linpoly_Space_Point.f k r0.1 3).bind fun r1 => some (decide (r1.f0 = 0 ∧ r1.f1 = 3))) else some false
def steepletop_fine.sig (k : Nat) : Sig E.toTys := ⟨[], [(false, .bool)], none, fun x => f k⟩
noncomputable def steepletop_fine.body : Code := Try.f5.body.getD .skip
def steepletop_fine.calls (k : Nat) : List (Nat × Sig E.toTys) := [(20, linpoly_Plain.sig k), (21, linpoly_Space_Point.sig k)]
def steepletop_fine.cuts : List (Cut E (RT E.toTys [(false, .bool)])) := []
theorem steepletop_fine.ok (k : Nat) : Okf (XR E) Try.prog 5 (steepletop_fine.sig k) := ⟨fn_ok (C := fun k => tab.ctx fun f => lk f (steepletop_fine.calls k)) (fun k => tie _) k (fun j hj => calls_ok (kc (linpoly_Plain.ok j) (kc (linpoly_Space_Point.ok j) (kn)))) 400 Try.func5 (body := steepletop_fine.body) (res := [.tmp 0]) rfl (by kernel_rfl) steepletop_fine.cuts (kn) (fun x => by kernel_rfl), _, Try.func5, by kernel_rfl, by kernel_rfl⟩
/-! ### steeple/cube.Log: function 38 -/
def cube_Log.l2 : Nat → Int → Int → Option Int
  | 0, _, _ => none
  | k + 1, x0, x1 => if x1 < 17 then (if 0 ≤ x1 then (if x0 = shl .i64 1 x1 then some x1 else cube_Log.l2 k x0 (wrap64 (x1 + 1))) else none) else some (-1)
def cube_Log.f (k : Nat) (a0 : Int) : Option Int := cube_Log.l2 k a0 0
def cube_Log.sig (k : Nat) : Sig E.toTys := ⟨[.int .i64], [(false, .int .i64)], none, fun x => f k x.1⟩
noncomputable def cube_Log.body : Code := Try.f38.body.getD .skip
def cube_Log.calls (k : Nat) : List (Nat × Sig E.toTys) := []
def cube_Log.cuts : List (Cut E (RT E.toTys [(false, .int .i64)])) := [⟨true, 2, ⟨cat [.one (.val (.int .i64))] (cat (ds 3) (cat [.one (.val (.int .i64))] (ds 8))), [], false⟩, fun k x => cube_Log.l2 k x.1.1 x.1.2.1⟩]
theorem cube_Log.ok (k : Nat) : Okf (XR E) Try.prog 38 (cube_Log.sig k) := ⟨fn_ok (C := fun k => tab.ctx fun f => lk f (cube_Log.calls k)) (fun k => tie _) k (fun j hj => calls_ok (kn)) 400 Try.func38 (body := cube_Log.body) (res := [.tmp 2]) rfl (by kernel_rfl) cube_Log.cuts (kc ⟨by kernel_rfl, rfl, fun _ => rfl, fun _ _ => by kernel_rfl⟩ (kn)) (fun x => by kernel_rfl), _, Try.func38, by kernel_rfl, by kernel_rfl⟩
/-! ### steeple/ring.ask: function 22 -/
def ring_ask.f (k : Nat) (a0 : Int) (a1 : List Bool) : Option Int := (octet_Wide.f k a0).bind fun r0 => if r0 = 0 then some 1 else (cube_Log.f k (a1.length : Int)).bind fun r1 => if r1 < a0 then some 6 else if r1 > 12 then some 6 else some 0
def ring_ask.sig (k : Nat) : Sig E.toTys := ⟨[.int .i64, .slice .bool], [(false, .int .i64)], none, fun x => f k x.1 x.2.1⟩
noncomputable def ring_ask.body : Code := Try.f22.body.getD .skip
def ring_ask.calls (k : Nat) : List (Nat × Sig E.toTys) := [(24, octet_Wide.sig k), (38, cube_Log.sig k)]
def ring_ask.cuts : List (Cut E (RT E.toTys [(false, .int .i64)])) := []
theorem ring_ask.ok (k : Nat) : Okf (XR E) Try.prog 22 (ring_ask.sig k) := ⟨fn_ok (C := fun k => tab.ctx fun f => lk f (ring_ask.calls k)) (fun k => tie _) k (fun j hj => calls_ok (kc (octet_Wide.ok j) (kc (cube_Log.ok j) (kn)))) 400 Try.func22 (body := ring_ask.body) (res := [.tmp 4]) rfl (by kernel_rfl) ring_ask.cuts (kn) (fun x => by kernel_rfl), _, Try.func22, by kernel_rfl, by kernel_rfl⟩
/-! ### steeple/tower.One: function 11 -/
def tower_One.f (k : Nat) : Option S34 := some (⟨0, 1⟩ : S34)
def tower_One.sig (k : Nat) : Sig E.toTys := ⟨[], [(false, .st 0)], none, fun x => f k⟩
noncomputable def tower_One.body : Code := Try.f11.body.getD .skip
def tower_One.calls (k : Nat) : List (Nat × Sig E.toTys) := []
def tower_One.cuts : List (Cut E (RT E.toTys [(false, .st 0)])) := []
theorem tower_One.ok (k : Nat) : Okf (XR E) Try.prog 11 (tower_One.sig k) := ⟨fn_ok (C := fun k => tab.ctx fun f => lk f (tower_One.calls k)) (fun k => tie _) k (fun j hj => calls_ok (kn)) 400 Try.func11 (body := tower_One.body) (res := [.cell 0 34]) rfl (by kernel_rfl) tower_One.cuts (kn) (fun x => by kernel_rfl), _, Try.func11, by kernel_rfl, by kernel_rfl⟩
/-! ### steeple/weave.ask: function 68 -/
def weave_ask.f (k : Nat) (a0 : Int) (a1 : Int) : Option Int := (octet_Wide.f k a0).bind fun r0 => if r0 = 0 then some 1 else (octet_Wide.f k a1).bind fun r1 => if r1 = 0 then some 1 else if a1 < a0 then some 1 else some 0
def weave_ask.sig (k : Nat) : Sig E.toTys := ⟨[.int .i64, .int .i64], [(false, .int .i64)], none, fun x => f k x.1 x.2.1⟩
noncomputable def weave_ask.body : Code := Try.f68.body.getD .skip
def weave_ask.calls (k : Nat) : List (Nat × Sig E.toTys) := [(24, octet_Wide.sig k)]
def weave_ask.cuts : List (Cut E (RT E.toTys [(false, .int .i64)])) := []
theorem weave_ask.ok (k : Nat) : Okf (XR E) Try.prog 68 (weave_ask.sig k) := ⟨fn_ok (C := fun k => tab.ctx fun f => lk f (weave_ask.calls k)) (fun k => tie _) k (fun j hj => calls_ok (kc (octet_Wide.ok j) (kn))) 400 Try.func68 (body := weave_ask.body) (res := [.tmp 4]) rfl (by kernel_rfl) weave_ask.cuts (kn) (fun x => by kernel_rfl), _, Try.func68, by kernel_rfl, by kernel_rfl⟩
/-! ### steeple/weave.of$1: function 85 -/
def weave_of_1.f (k : Nat) (a0 : S34) (a1 : Option Int) : Option Bool := (match a1 with | none => none | some r0 => (octet_Of.f k r0 a0).bind fun r1 => some (!r1))
def weave_of_1.sig (k : Nat) : Sig E.toTys := ⟨[.st 0, .ptr (.int .i64)], [(false, .bool)], none, fun x => f k x.1 x.2.1⟩
noncomputable def weave_of_1.body : Code := Try.f85.body.getD .skip
def weave_of_1.calls (k : Nat) : List (Nat × Sig E.toTys) := [(28, octet_Of.sig k)]
def weave_of_1.cuts : List (Cut E (RT E.toTys [(false, .bool)])) := []
theorem weave_of_1.ok (k : Nat) : Okf (XR E) Try.prog 85 (weave_of_1.sig k) := ⟨fn_ok (C := fun k => tab.ctx fun f => lk f (weave_of_1.calls k)) (fun k => tie _) k (fun j hj => calls_ok (kc (octet_Of.ok j) (kn))) 400 Try.func85 (body := weave_of_1.body) (res := [.tmp 3]) rfl (by kernel_rfl) weave_of_1.cuts (kn) (fun x => by kernel_rfl), _, Try.func85, by kernel_rfl, by kernel_rfl⟩
end Go.Proofs.Ytfmjodlcjaflfaa.B
namespace Go.Proofs.Ytfmjodlcjaflfaa.B
open Go.Proofs.Ytfmjodlcjaflfaa.V.B Go.RowKit
set_option linter.unusedVariables false
/-! ### slices.IndexFunc: function 77 -/
def slices_IndexFunc77_c85.l2 : Nat → List S34 → Int → Int → Int → Option Int
  | 0, _, _, _, _ => none
  | k + 1, x0, x1, x2, x3 => if x3 < x2 then (if 0 ≤ x3 then (if x3 < (x0.length : Int) then ((weave_of_1.f k (rd34 x0 x3) (some x1)).bind fun r0 => if r0 = true then some x3 else slices_IndexFunc77_c85.l2 k x0 x1 x2 (wrap64 (x3 + 1))) else none) else none) else some (-1)
def slices_IndexFunc77_c85.f (k : Nat) (a0 : List S34) (a1 : Int) : Option Int := slices_IndexFunc77_c85.l2 k a0 a1 (a0.length : Int) 0
def slices_IndexFunc77_c85.sig (k : Nat) : Sig E.toTys := ⟨[.slice (.st 0), .ext 85 (.int .i64)], [(false, .int .i64)], none, fun x => f k x.1 x.2.1⟩
noncomputable def slices_IndexFunc77_c85.body : Code := Try.f77.body.getD .skip
def slices_IndexFunc77_c85.calls (k : Nat) : List (Nat × Sig E.toTys) := [(85, weave_of_1.sig k)]
def slices_IndexFunc77_c85.cuts : List (Cut E (RT E.toTys [(false, .int .i64)])) := [⟨true, 2, ⟨cat [.one (.val (.slice (.st 0))), .one (.val (.ext 85 (.int .i64)))] (cat (ds 5) (cat [.one (.val (.int .i64)), .one (.val (.int .i64))] (ds 10))), [], false⟩, fun k x => slices_IndexFunc77_c85.l2 k x.1.1 x.1.2.1 x.1.2.2.1 x.1.2.2.2.1⟩]
theorem slices_IndexFunc77_c85.ok (k : Nat) : Okf (XR E) Try.prog 77 (slices_IndexFunc77_c85.sig k) := ⟨fn_ok (C := fun k => tab.ctx fun f => lk f (slices_IndexFunc77_c85.calls k)) (fun k => tie _) k (fun j hj => calls_ok (kc (weave_of_1.ok j) (kn))) 400 Try.func77 (body := slices_IndexFunc77_c85.body) (res := [.tmp 4]) rfl (by kernel_rfl) slices_IndexFunc77_c85.cuts (kc ⟨by kernel_rfl, rfl, fun _ => rfl, fun _ _ => by kernel_rfl⟩ (kn)) (fun x => by kernel_rfl), _, Try.func77, by kernel_rfl, by kernel_rfl⟩
/-! ### slices.ContainsFunc: function 52 -/
def slices_ContainsFunc52_c85.f (k : Nat) (a0 : List S34) (a1 : Int) : Option Bool := (slices_IndexFunc77_c85.f k a0 a1).bind fun r0 => some (decide (r0 ≥ 0))
def slices_ContainsFunc52_c85.sig (k : Nat) : Sig E.toTys := ⟨[.slice (.st 0), .ext 85 (.int .i64)], [(false, .bool)], none, fun x => f k x.1 x.2.1⟩
noncomputable def slices_ContainsFunc52_c85.body : Code := Try.f52.body.getD .skip
def slices_ContainsFunc52_c85.calls (k : Nat) : List (Nat × Sig E.toTys) := [(77, slices_IndexFunc77_c85.sig k)]
def slices_ContainsFunc52_c85.cuts : List (Cut E (RT E.toTys [(false, .bool)])) := []
theorem slices_ContainsFunc52_c85.ok (k : Nat) : Okf (XR E) Try.prog 52 (slices_ContainsFunc52_c85.sig k) := ⟨fn_ok (C := fun k => tab.ctx fun f => lk f (slices_ContainsFunc52_c85.calls k)) (fun k => tie _) k (fun j hj => calls_ok (kc (slices_IndexFunc77_c85.ok j) (kn))) 400 Try.func52 (body := slices_ContainsFunc52_c85.body) (res := [.tmp 4]) rfl (by kernel_rfl) slices_ContainsFunc52_c85.cuts (kn) (fun x => by kernel_rfl), _, Try.func52, by kernel_rfl, by kernel_rfl⟩
/-! ### steeple/weave.of: function 69 -/
def weave_of.f (k : Nat) (a0 : Int) (a1 : List S34) : Option Bool := (slices_ContainsFunc52_c85.f k a1 a0).bind fun r0 => some (!r0)
def weave_of.sig (k : Nat) : Sig E.toTys := ⟨[.int .i64, .slice (.st 0)], [(false, .bool)], none, fun x => f k x.1 x.2.1⟩
noncomputable def weave_of.body : Code := Try.f69.body.getD .skip
def weave_of.calls (k : Nat) : List (Nat × Sig E.toTys) := [(52, slices_ContainsFunc52_c85.sig k)]
def weave_of.cuts : List (Cut E (RT E.toTys [(false, .bool)])) := []
theorem weave_of.ok (k : Nat) : Okf (XR E) Try.prog 69 (weave_of.sig k) := ⟨fn_ok (C := fun k => tab.ctx fun f => lk f (weave_of.calls k)) (fun k => tie _) k (fun j hj => calls_ok (kc (slices_ContainsFunc52_c85.ok j) (kn))) 400 Try.func69 (body := weave_of.body) (res := [.tmp 4]) rfl (by kernel_rfl) weave_of.cuts (kn) (fun x => by kernel_rfl), _, Try.func69, by kernel_rfl, by kernel_rfl⟩
/-! ### steeple/weave.up: function 70 -/
def weave_up.f (k : Nat) (a0 : S34) (a1 : Int) : Option S34 := if a1 = 0 then some a0 else if a1 ≥ 64 then (if 0 ≤ wrap64 (a1 - 64) then some (⟨shl .u64 a0.f1 (wrap64 (a1 - 64)), 0⟩ : S34) else none) else if 0 ≤ a1 then (if 0 ≤ wrap64 (64 - a1) then (if 0 ≤ a1 then some (⟨bits .or .u64 (shl .u64 a0.f0 a1) (shr .u64 a0.f1 (wrap64 (64 - a1))), shl .u64 a0.f1 a1⟩ : S34) else none) else none) else none
def weave_up.sig (k : Nat) : Sig E.toTys := ⟨[.st 0, .int .i64], [(false, .st 0)], none, fun x => f k x.1 x.2.1⟩
noncomputable def weave_up.body : Code := Try.f70.body.getD .skip
def weave_up.calls (k : Nat) : List (Nat × Sig E.toTys) := []
def weave_up.cuts : List (Cut E (RT E.toTys [(false, .st 0)])) := []
theorem weave_up.ok (k : Nat) : Okf (XR E) Try.prog 70 (weave_up.sig k) := ⟨fn_ok (C := fun k => tab.ctx fun f => lk f (weave_up.calls k)) (fun k => tie _) k (fun j hj => calls_ok (kn)) 400 Try.func70 (body := weave_up.body) (res := [.cell 4 34]) rfl (by kernel_rfl) weave_up.cuts (kn) (fun x => by kernel_rfl), _, Try.func70, by kernel_rfl, by kernel_rfl⟩
/-! ### steeple/weave.Gather: function 42 -/
mutual
def weave_Gather.l11 : Nat → Int → Int → List S34 → Int → Int → List S34 → Option ((List S34) × Int)
  | 0, _, _, _, _, _, _ => none
  | k + 1, x0, x1, x2, x3, x4, x5 => if x4 < x3 then (if 0 ≤ x4 then (if x4 < (x2.length : Int) then (if x1 = 0 then none else if Int.tmod x4 x1 = 0 then (if x5.length + [(⟨0, 0⟩ : S34)].length ≤ 140737488355328 / 16 then weave_Gather.j15 k x0 x1 x4 x2 x3 x4 (x5 ++ [(⟨0, 0⟩ : S34)]) (rd34 x2 x4).f0 (rd34 x2 x4).f1 else none) else weave_Gather.j15 k x0 x1 x4 x2 x3 x4 x5 (rd34 x2 x4).f0 (rd34 x2 x4).f1) else none) else none) else some (x5, 0)
def weave_Gather.j15 : Nat → Int → Int → Int → List S34 → Int → Int → List S34 → Int → Int → Option ((List S34) × Int)
  | 0, _, _, _, _, _, _, _, _, _ => none
  | k + 1, x0, x1, x2, x3, x4, x5, x6, x7, x8 => if 0 ≤ wrap64 ((x6.length : Int) - 1) then (if wrap64 ((x6.length : Int) - 1) < (x6.length : Int) then (if x1 = 0 then none else if 0 ≤ x0 then ((weave_up.f k (⟨x7, x8⟩ : S34) (shl .i64 (Int.tmod x2 x1) x0)).bind fun r2 => (tower_Add.f k (rd34 x6 (wrap64 ((x6.length : Int) - 1))) r2).bind fun r3 => if 0 ≤ wrap64 ((x6.length : Int) - 1) then (if wrap64 ((x6.length : Int) - 1) < (x6.length : Int) then weave_Gather.l11 k x0 x1 x3 x4 (wrap64 (x5 + 1)) (x6.set (Int.toNat (wrap64 ((x6.length : Int) - 1))) r3) else none) else none) else none) else none) else none
end
def weave_Gather.f (k : Nat) (a0 : Int) (a1 : Int) (a2 : List S34) : Option ((List S34) × Int) := (weave_ask.f k a0 a1).bind fun r0 => if r0 = 0 then (if 0 ≤ wrap64 (a1 - a0) then (if shl .i64 1 (wrap64 (a1 - a0)) = 0 then none else if Int.tmod (a2.length : Int) (shl .i64 1 (wrap64 (a1 - a0))) = 0 then ((weave_of.f k a0 a2).bind fun r1 => if (!r1) = true then some ([], 5) else weave_Gather.l11 k a0 (shl .i64 1 (wrap64 (a1 - a0))) a2 (a2.length : Int) 0 []) else some ([], 6)) else none) else some ([], r0)
def weave_Gather.sig (k : Nat) : Sig E.toTys := ⟨[.int .i64, .int .i64, .slice (.st 0)], [(true, .slice (.st 0)), (false, .int .i64)], none, fun x => f k x.1 x.2.1 x.2.2.1⟩
noncomputable def weave_Gather.body : Code := Try.f42.body.getD .skip
def weave_Gather.calls (k : Nat) : List (Nat × Sig E.toTys) := [(68, weave_ask.sig k), (69, weave_of.sig k), (70, weave_up.sig k), (18, tower_Add.sig k)]
def weave_Gather.cuts : List (Cut E (RT E.toTys [(true, .slice (.st 0)), (false, .int .i64)])) := [⟨true, 11, ⟨cat [.one (.val (.int .i64))] (cat (ds 8) (cat [.one (.val (.int .i64)), .one (.ref 0)] (cat (ds 24) (cat [.one (.val (.slice (.st 0))), .one (.val (.int .i64)), .one (.val (.int .i64))] (ds 32))))), [.arr (.st 0)], false⟩, fun k x => weave_Gather.l11 k x.1.1 x.1.2.1 x.1.2.2.1 x.1.2.2.2.1 x.1.2.2.2.2.1 x.2.1⟩,
  ⟨false, 15, ⟨cat [.one (.val (.int .i64))] (cat (ds 8) (cat [.one (.val (.int .i64)), .one (.ref 0), .one (.val (.int .i64)), .one (.ptr 1 0)] (cat (ds 22) (cat [.one (.val (.slice (.st 0))), .one (.val (.int .i64)), .one (.val (.int .i64))] (ds 32))))), [.arr (.st 0), .var [.val (.int .u64), .val (.int .u64)]], false⟩, fun k x => weave_Gather.j15 k x.1.1 x.1.2.1 x.1.2.2.1 x.1.2.2.2.1 x.1.2.2.2.2.1 x.1.2.2.2.2.2.1 x.2.1 x.2.2.1.1 x.2.2.1.2.1⟩]
theorem weave_Gather.ok (k : Nat) : Okf (XR E) Try.prog 42 (weave_Gather.sig k) := ⟨fn_ok (C := fun k => tab.ctx fun f => lk f (weave_Gather.calls k)) (fun k => tie _) k (fun j hj => calls_ok (kc (weave_ask.ok j) (kc (weave_of.ok j) (kc (weave_up.ok j) (kc (tower_Add.ok j) (kn)))))) 400 Try.func42 (body := weave_Gather.body) (res := [.tmp 6, .tmp 7]) rfl (by kernel_rfl) weave_Gather.cuts (kc ⟨by kernel_rfl, rfl, fun _ => rfl, fun _ _ => by kernel_rfl⟩ (kc ⟨by kernel_rfl, rfl, fun _ => rfl, fun _ _ => by kernel_rfl⟩ (kn))) (fun x => by kernel_rfl), _, Try.func42, by kernel_rfl, by kernel_rfl⟩
/-! ### steeple/weave.Bits: function 23 -/
def weave_Bits.l3 : Nat → Int → List Bool → Int → Int → List S34 → Option ((List S34) × Int)
  | 0, _, _, _, _, _ => none
  | k + 1, x0, x1, x2, x3, x4 => if x3 < x2 then (if 0 ≤ x3 then (if x3 < (x1.length : Int) then (if (rdB x1 x3) = true then ((tower_One.f k).bind fun r0 => if x4.length + [r0].length ≤ 140737488355328 / 16 then weave_Bits.l3 k x0 x1 x2 (wrap64 (x3 + 1)) (x4 ++ [r0]) else none) else if x4.length + [(⟨0, 0⟩ : S34)].length ≤ 140737488355328 / 16 then weave_Bits.l3 k x0 x1 x2 (wrap64 (x3 + 1)) (x4 ++ [(⟨0, 0⟩ : S34)]) else none) else none) else none) else (weave_Gather.f k 0 x0 x4).bind fun r1 => some (r1.1, r1.2)
def weave_Bits.f (k : Nat) (a0 : Int) (a1 : List Bool) : Option ((List S34) × Int) := weave_Bits.l3 k a0 a1 (a1.length : Int) 0 []
def weave_Bits.sig (k : Nat) : Sig E.toTys := ⟨[.int .i64, .slice .bool], [(true, .slice (.st 0)), (false, .int .i64)], none, fun x => f k x.1 x.2.1⟩
noncomputable def weave_Bits.body : Code := Try.f23.body.getD .skip
def weave_Bits.calls (k : Nat) : List (Nat × Sig E.toTys) := [(11, tower_One.sig k), (42, weave_Gather.sig k)]
def weave_Bits.cuts : List (Cut E (RT E.toTys [(true, .slice (.st 0)), (false, .int .i64)])) := [⟨true, 3, ⟨cat [.one (.val (.int .i64))] (cat (ds 5) (cat [.one (.ref 0)] (cat (ds 3) (cat [.one (.val (.slice .bool)), .one (.val (.int .i64)), .one (.val (.int .i64))] (ds 16))))), [.arr (.st 0)], false⟩, fun k x => weave_Bits.l3 k x.1.1 x.1.2.1 x.1.2.2.1 x.1.2.2.2.1 x.2.1⟩]
theorem weave_Bits.ok (k : Nat) : Okf (XR E) Try.prog 23 (weave_Bits.sig k) := ⟨fn_ok (C := fun k => tab.ctx fun f => lk f (weave_Bits.calls k)) (fun k => tie _) k (fun j hj => calls_ok (kc (tower_One.ok j) (kc (weave_Gather.ok j) (kn)))) 400 Try.func23 (body := weave_Bits.body) (res := [.tmp 4, .tmp 5]) rfl (by kernel_rfl) weave_Bits.cuts (kc ⟨by kernel_rfl, rfl, fun _ => rfl, fun _ _ => by kernel_rfl⟩ (kn)) (fun x => by kernel_rfl), _, Try.func23, by kernel_rfl, by kernel_rfl⟩
/-! ### steeple/ring.Pack: function 6 -/
def ring_Pack.f (k : Nat) (a0 : Int) (a1 : List Bool) : Option ((List S34) × Int) := (ring_ask.f k a0 a1).bind fun r0 => if r0 = 0 then ((weave_Bits.f k a0 a1).bind fun r1 => some (r1.1, r1.2)) else some ([], r0)
def ring_Pack.sig (k : Nat) : Sig E.toTys := ⟨[.int .i64, .slice .bool], [(true, .slice (.st 0)), (false, .int .i64)], none, fun x => f k x.1 x.2.1⟩
noncomputable def ring_Pack.body : Code := Try.f6.body.getD .skip
def ring_Pack.calls (k : Nat) : List (Nat × Sig E.toTys) := [(22, ring_ask.sig k), (23, weave_Bits.sig k)]
def ring_Pack.cuts : List (Cut E (RT E.toTys [(true, .slice (.st 0)), (false, .int .i64)])) := []
theorem ring_Pack.ok (k : Nat) : Okf (XR E) Try.prog 6 (ring_Pack.sig k) := ⟨fn_ok (C := fun k => tab.ctx fun f => lk f (ring_Pack.calls k)) (fun k => tie _) k (fun j hj => calls_ok (kc (ring_ask.ok j) (kc (weave_Bits.ok j) (kn)))) 400 Try.func6 (body := ring_Pack.body) (res := [.tmp 4, .tmp 5]) rfl (by kernel_rfl) ring_Pack.cuts (kn) (fun x => by kernel_rfl), _, Try.func6, by kernel_rfl, by kernel_rfl⟩
/-! ### steeple/span.within$1: function 71 -/
def span_within_1.f (k : Nat) (a0 : S34) (a1 : Option Int) : Option Bool := (span_lead.f k a0).bind fun r0 => (match a1 with | none => none | some r1 => some (decide (r0 ≥ r1)))
def span_within_1.sig (k : Nat) : Sig E.toTys := ⟨[.st 0, .ptr (.int .i64)], [(false, .bool)], none, fun x => f k x.1 x.2.1⟩
noncomputable def span_within_1.body : Code := Try.f71.body.getD .skip
def span_within_1.calls (k : Nat) : List (Nat × Sig E.toTys) := [(50, span_lead.sig k)]
def span_within_1.cuts : List (Cut E (RT E.toTys [(false, .bool)])) := []
theorem span_within_1.ok (k : Nat) : Okf (XR E) Try.prog 71 (span_within_1.sig k) := ⟨fn_ok (C := fun k => tab.ctx fun f => lk f (span_within_1.calls k)) (fun k => tie _) k (fun j hj => calls_ok (kc (span_lead.ok j) (kn))) 400 Try.func71 (body := span_within_1.body) (res := [.tmp 3]) rfl (by kernel_rfl) span_within_1.cuts (kn) (fun x => by kernel_rfl), _, Try.func71, by kernel_rfl, by kernel_rfl⟩
/-! ### slices.IndexFunc: function 77 -/
def slices_IndexFunc77_c71.l2 : Nat → List S34 → Int → Int → Int → Option Int
  | 0, _, _, _, _ => none
  | k + 1, x0, x1, x2, x3 => if x3 < x2 then (if 0 ≤ x3 then (if x3 < (x0.length : Int) then ((span_within_1.f k (rd34 x0 x3) (some x1)).bind fun r0 => if r0 = true then some x3 else slices_IndexFunc77_c71.l2 k x0 x1 x2 (wrap64 (x3 + 1))) else none) else none) else some (-1)
def slices_IndexFunc77_c71.f (k : Nat) (a0 : List S34) (a1 : Int) : Option Int := slices_IndexFunc77_c71.l2 k a0 a1 (a0.length : Int) 0
def slices_IndexFunc77_c71.sig (k : Nat) : Sig E.toTys := ⟨[.slice (.st 0), .ext 71 (.int .i64)], [(false, .int .i64)], none, fun x => f k x.1 x.2.1⟩
noncomputable def slices_IndexFunc77_c71.body : Code := Try.f77.body.getD .skip
def slices_IndexFunc77_c71.calls (k : Nat) : List (Nat × Sig E.toTys) := [(71, span_within_1.sig k)]
def slices_IndexFunc77_c71.cuts : List (Cut E (RT E.toTys [(false, .int .i64)])) := [⟨true, 2, ⟨cat [.one (.val (.slice (.st 0))), .one (.val (.ext 71 (.int .i64)))] (cat (ds 5) (cat [.one (.val (.int .i64)), .one (.val (.int .i64))] (ds 10))), [], false⟩, fun k x => slices_IndexFunc77_c71.l2 k x.1.1 x.1.2.1 x.1.2.2.1 x.1.2.2.2.1⟩]
theorem slices_IndexFunc77_c71.ok (k : Nat) : Okf (XR E) Try.prog 77 (slices_IndexFunc77_c71.sig k) := ⟨fn_ok (C := fun k => tab.ctx fun f => lk f (slices_IndexFunc77_c71.calls k)) (fun k => tie _) k (fun j hj => calls_ok (kc (span_within_1.ok j) (kn))) 400 Try.func77 (body := slices_IndexFunc77_c71.body) (res := [.tmp 4]) rfl (by kernel_rfl) slices_IndexFunc77_c71.cuts (kc ⟨by kernel_rfl, rfl, fun _ => rfl, fun _ _ => by kernel_rfl⟩ (kn)) (fun x => by kernel_rfl), _, Try.func77, by kernel_rfl, by kernel_rfl⟩
/-! ### slices.ContainsFunc: function 52 -/
def slices_ContainsFunc52_c71.f (k : Nat) (a0 : List S34) (a1 : Int) : Option Bool := (slices_IndexFunc77_c71.f k a0 a1).bind fun r0 => some (decide (r0 ≥ 0))
def slices_ContainsFunc52_c71.sig (k : Nat) : Sig E.toTys := ⟨[.slice (.st 0), .ext 71 (.int .i64)], [(false, .bool)], none, fun x => f k x.1 x.2.1⟩
noncomputable def slices_ContainsFunc52_c71.body : Code := Try.f52.body.getD .skip
def slices_ContainsFunc52_c71.calls (k : Nat) : List (Nat × Sig E.toTys) := [(77, slices_IndexFunc77_c71.sig k)]
def slices_ContainsFunc52_c71.cuts : List (Cut E (RT E.toTys [(false, .bool)])) := []
theorem slices_ContainsFunc52_c71.ok (k : Nat) : Okf (XR E) Try.prog 52 (slices_ContainsFunc52_c71.sig k) := ⟨fn_ok (C := fun k => tab.ctx fun f => lk f (slices_ContainsFunc52_c71.calls k)) (fun k => tie _) k (fun j hj => calls_ok (kc (slices_IndexFunc77_c71.ok j) (kn))) 400 Try.func52 (body := slices_ContainsFunc52_c71.body) (res := [.tmp 4]) rfl (by kernel_rfl) slices_ContainsFunc52_c71.cuts (kn) (fun x => by kernel_rfl), _, Try.func52, by kernel_rfl, by kernel_rfl⟩
/-! ### steeple/span.within: function 43 -/
def span_within.f (k : Nat) (a0 : List S34) (a1 : Int) : Option Bool := (slices_ContainsFunc52_c71.f k a0 a1).bind fun r0 => some (!r0)
def span_within.sig (k : Nat) : Sig E.toTys := ⟨[.slice (.st 0), .int .i64], [(false, .bool)], none, fun x => f k x.1 x.2.1⟩
noncomputable def span_within.body : Code := Try.f43.body.getD .skip
def span_within.calls (k : Nat) : List (Nat × Sig E.toTys) := [(52, slices_ContainsFunc52_c71.sig k)]
def span_within.cuts : List (Cut E (RT E.toTys [(false, .bool)])) := []
theorem span_within.ok (k : Nat) : Okf (XR E) Try.prog 43 (span_within.sig k) := ⟨fn_ok (C := fun k => tab.ctx fun f => lk f (span_within.calls k)) (fun k => tie _) k (fun j hj => calls_ok (kc (slices_ContainsFunc52_c71.ok j) (kn))) 400 Try.func43 (body := span_within.body) (res := [.tmp 4]) rfl (by kernel_rfl) span_within.cuts (kn) (fun x => by kernel_rfl), _, Try.func43, by kernel_rfl, by kernel_rfl⟩
/-! ### steeple/span.flip: function 73 -/
def span_flip.l1 : Nat → List Bool → Int → Int → List Bool → Option (List Bool)
  | 0, _, _, _, _ => none
  | k + 1, x0, x1, x2, x3 => if x2 < x1 then (if 0 ≤ x2 then (if x2 < (x3.length : Int) then (if 0 ≤ x2 then (if x2 < (x0.length : Int) then (if 0 ≤ x2 then (if x2 < (x3.length : Int) then span_flip.l1 k x0 x1 (wrap64 (x2 + 1)) (x3.set (Int.toNat x2) (!decide ((rdB x3 x2) = (rdB x0 x2)))) else none) else none) else none) else none) else none) else none) else some x3
def span_flip.f (k : Nat) (a0 : List Bool) (a1 : List Bool) : Option (List Bool) := span_flip.l1 k a1 (a0.length : Int) 0 a0
def span_flip.sig (k : Nat) : Sig E.toTys := ⟨[.slice .bool, .slice .bool], [(true, .slice .bool)], some 0, fun x => f k x.1 x.2.1⟩
noncomputable def span_flip.body : Code := Try.f73.body.getD .skip
def span_flip.calls (k : Nat) : List (Nat × Sig E.toTys) := []
def span_flip.cuts : List (Cut E (RT E.toTys [(true, .slice .bool)])) := [⟨true, 1, ⟨cat [.one (.ref 0), .one (.val (.slice .bool))] (cat (ds 4) (cat [.one (.val (.int .i64)), .one (.val (.int .i64))] (ds 15))), [.arr (.bool)], true⟩, fun k x => span_flip.l1 k x.1.1 x.1.2.1 x.1.2.2.1 x.2.1⟩]
theorem span_flip.ok (k : Nat) : Okf (XR E) Try.prog 73 (span_flip.sig k) := ⟨fn_okIO (C := fun k => tab.ctx fun f => lk f (span_flip.calls k)) (fun k => tie _) k (fun j hj => calls_ok (kn)) 400 0 Try.func73 (body := span_flip.body) (res := []) rfl (by kernel_rfl) span_flip.cuts (kc ⟨by kernel_rfl, rfl, fun _ => rfl, fun _ _ => by kernel_rfl⟩ (kn)) (fun x => by kernel_rfl), _, Try.func73, by kernel_rfl, by kernel_rfl⟩
/-! ### steeple/span.Solve: function 44 -/
mutual
def span_Solve.l3 : Nat → List S34 → List S34 → Int → Int → Int → Int → List S105 → Option ((List Bool) × Bool)
  | 0, _, _, _, _, _, _, _ => none
  | k + 1, x0, x1, x2, x3, x4, x5, x6 => if x3 < x2 then (if 0 ≤ x3 then (if x3 < (x1.length : Int) then (if 0 ≤ (x0.length : Int) then (if (x0.length : Int) ≤ 140737488355328 / ((1 : Nat) : Int) then (if 0 ≤ x3 then (if x3 < ((List.replicate (Int.toNat (x0.length : Int)) false).length : Int) then span_Solve.l8 k x0 x1 x2 x3 (x6.length : Int) 0 x4 x5 x6 (rd34 x1 x3).f0 (rd34 x1 x3).f1 ((List.replicate (Int.toNat (x0.length : Int)) false).set (Int.toNat x3) true) else none) else none) else none) else none) else none) else none) else if 0 ≤ (x0.length : Int) then (if (x0.length : Int) ≤ 140737488355328 / ((1 : Nat) : Int) then span_Solve.l19 k (x6.length : Int) 0 x4 x5 (List.replicate (Int.toNat (x0.length : Int)) false) x6 else none) else none
def span_Solve.l8 : Nat → List S34 → List S34 → Int → Int → Int → Int → Int → Int → List S105 → Int → Int → List Bool → Option ((List Bool) × Bool)
  | 0, _, _, _, _, _, _, _, _, _, _, _, _ => none
  | k + 1, x0, x1, x2, x3, x4, x5, x6, x7, x8, x9, x10, x11 => if x5 < x4 then (if 0 ≤ x5 then (if x5 < (x8.length : Int) then ((span_lead.f k (rd105 x8 x5).f0).bind fun r0 => (span_has.f k (⟨x9, x10⟩ : S34) r0).bind fun r1 => if r1 = true then ((tower_Add.f k (⟨x9, x10⟩ : S34) (rd105 x8 x5).f0).bind fun r2 => (span_flip.f k x11 (rd105 x8 x5).f1).bind fun r3 => span_Solve.l8 k x0 x1 x2 x3 x4 (wrap64 (x5 + 1)) x6 x7 x8 r2.f0 r2.f1 r3) else span_Solve.l8 k x0 x1 x2 x3 x4 (wrap64 (x5 + 1)) x6 x7 x8 x9 x10 x11) else none) else none) else if x9 = 0 ∧ x10 = 0 then span_Solve.l3 k x0 x1 x2 (wrap64 (x3 + 1)) x6 x7 x8 else if x8.length + [(⟨(⟨x9, x10⟩ : S34), x11⟩ : S105)].length ≤ 140737488355328 / 40 then span_Solve.l3 k x0 x1 x2 (wrap64 (x3 + 1)) x6 x7 (x8 ++ [(⟨(⟨x9, x10⟩ : S34), x11⟩ : S105)]) else none
def span_Solve.l19 : Nat → Int → Int → Int → Int → List Bool → List S105 → Option ((List Bool) × Bool)
  | 0, _, _, _, _, _, _ => none
  | k + 1, x0, x1, x2, x3, x4, x5 => if x1 < x0 then (if 0 ≤ x1 then (if x1 < (x5.length : Int) then ((span_lead.f k (rd105 x5 x1).f0).bind fun r4 => (span_has.f k (⟨x2, x3⟩ : S34) r4).bind fun r5 => if r5 = true then ((tower_Add.f k (⟨x2, x3⟩ : S34) (rd105 x5 x1).f0).bind fun r6 => (span_flip.f k x4 (rd105 x5 x1).f1).bind fun r7 => span_Solve.l19 k x0 (wrap64 (x1 + 1)) r6.f0 r6.f1 r7 x5) else span_Solve.l19 k x0 (wrap64 (x1 + 1)) x2 x3 x4 x5) else none) else none) else if x2 = 0 ∧ x3 = 0 then some (x4, true) else some ([], false)
end
def span_Solve.f (k : Nat) (a0 : List S34) (a1 : S34) : Option ((List Bool) × Bool) := span_Solve.l3 k a0 a0 (a0.length : Int) 0 a1.f0 a1.f1 []
def span_Solve.sig (k : Nat) : Sig E.toTys := ⟨[.slice (.st 0), .st 0], [(true, .slice .bool), (false, .bool)], none, fun x => f k x.1 x.2.1⟩
noncomputable def span_Solve.body : Code := Try.f44.body.getD .skip
def span_Solve.calls (k : Nat) : List (Nat × Sig E.toTys) := [(50, span_lead.sig k), (72, span_has.sig k), (18, tower_Add.sig k), (73, span_flip.sig k)]
def span_Solve.cuts : List (Cut E (RT E.toTys [(true, .slice .bool), (false, .bool)])) := [⟨true, 3, ⟨cat [.one (.val (.slice (.st 0)))] (cat (ds 2) (cat [.one (.ptr 0 0)] (cat (ds 2) (cat [.one (.ref 1)] (cat (ds 8) (cat [.one (.val (.slice (.st 0))), .one (.val (.int .i64)), .one (.val (.int .i64))] (ds 73))))))), [.var [.val (.int .u64), .val (.int .u64)], .arr (.st 3)], false⟩, fun k x => span_Solve.l3 k x.1.1 x.1.2.1 x.1.2.2.1 x.1.2.2.2.1 x.2.1.1 x.2.1.2.1 x.2.2.1⟩,
  ⟨true, 8, ⟨cat [.one (.val (.slice (.st 0)))] (cat (ds 2) (cat [.one (.ptr 0 0)] (cat (ds 2) (cat [.one (.ref 1)] (cat (ds 2) (cat [.one (.ptr 2 0)] (cat (ds 5) (cat [.one (.val (.slice (.st 0))), .one (.val (.int .i64)), .one (.val (.int .i64))] (cat (ds 13) (cat [.one (.ref 1), .one (.val (.int .i64)), .one (.val (.int .i64))] (ds 57))))))))))), [.var [.val (.int .u64), .val (.int .u64)], .arr (.st 3), .var [.val (.int .u64), .val (.int .u64), .ref 3], .arr (.bool)], false⟩, fun k x => span_Solve.l8 k x.1.1 x.1.2.1 x.1.2.2.1 x.1.2.2.2.1 x.1.2.2.2.2.1 x.1.2.2.2.2.2.1 x.2.1.1 x.2.1.2.1 x.2.2.1 x.2.2.2.1.1 x.2.2.2.1.2.1 x.2.2.2.2.1⟩,
  ⟨true, 19, ⟨cat (ds 3) (cat [.one (.ptr 0 0)] (cat (ds 8) (cat [.one (.ref 1)] (cat (ds 54) (cat [.one (.ref 2), .one (.val (.int .i64)), .one (.val (.int .i64))] (ds 21)))))), [.var [.val (.int .u64), .val (.int .u64)], .arr (.bool), .arr (.st 3)], false⟩, fun k x => span_Solve.l19 k x.1.1 x.1.2.1 x.2.1.1 x.2.1.2.1 x.2.2.1 x.2.2.2.1⟩]
theorem span_Solve.ok (k : Nat) : Okf (XR E) Try.prog 44 (span_Solve.sig k) := ⟨fn_ok (C := fun k => tab.ctx fun f => lk f (span_Solve.calls k)) (fun k => tie _) k (fun j hj => calls_ok (kc (span_lead.ok j) (kc (span_has.ok j) (kc (tower_Add.ok j) (kc (span_flip.ok j) (kn)))))) 400 Try.func44 (body := span_Solve.body) (res := [.tmp 4, .tmp 5]) rfl (by kernel_rfl) span_Solve.cuts (kc ⟨by kernel_rfl, rfl, fun _ => rfl, fun _ _ => by kernel_rfl⟩ (kc ⟨by kernel_rfl, rfl, fun _ => rfl, fun _ _ => by kernel_rfl⟩ (kc ⟨by kernel_rfl, rfl, fun _ => rfl, fun _ _ => by kernel_rfl⟩ (kn)))) (fun x => by kernel_rfl), _, Try.func44, by kernel_rfl, by kernel_rfl⟩
/-! ### steeple/span.Back: function 25 -/
mutual
def span_Back.l7 : Nat → List S34 → Int → Int → List S34 → Option ((List S34) × Int)
  | 0, _, _, _, _ => none
  | k + 1, x0, x1, x2, x3 => if x2 < x1 then ((tower_Bit.f k x2).bind fun r1 => (span_Solve.f k x0 r1).bind fun r2 => if (!r2.2) = true then some ([], 7) else span_Back.l14 k x0 x1 x2 (r2.1.length : Int) 0 x3 0 0 r2.1) else some (x3, 0)
def span_Back.l14 : Nat → List S34 → Int → Int → Int → Int → List S34 → Int → Int → List Bool → Option ((List S34) × Int)
  | 0, _, _, _, _, _, _, _, _, _ => none
  | k + 1, x0, x1, x2, x3, x4, x5, x6, x7, x8 => if x4 < x3 then (if 0 ≤ x4 then (if x4 < (x8.length : Int) then (if (rdB x8 x4) = true then ((tower_Bit.f k x4).bind fun r3 => (tower_Add.f k (⟨x6, x7⟩ : S34) r3).bind fun r4 => span_Back.l14 k x0 x1 x2 x3 (wrap64 (x4 + 1)) x5 r4.f0 r4.f1 x8) else span_Back.l14 k x0 x1 x2 x3 (wrap64 (x4 + 1)) x5 x6 x7 x8) else none) else none) else if x5.length + [(⟨x6, x7⟩ : S34)].length ≤ 140737488355328 / 16 then span_Back.l7 k x0 x1 (wrap64 (x2 + 1)) (x5 ++ [(⟨x6, x7⟩ : S34)]) else none
end
def span_Back.f (k : Nat) (a0 : List S34) : Option ((List S34) × Int) := if (a0.length : Int) > 128 then some ([], 1) else (span_within.f k a0 (a0.length : Int)).bind fun r0 => if (!r0) = true then some ([], 6) else span_Back.l7 k a0 (a0.length : Int) 0 []
def span_Back.sig (k : Nat) : Sig E.toTys := ⟨[.slice (.st 0)], [(true, .slice (.st 0)), (false, .int .i64)], none, fun x => f k x.1⟩
noncomputable def span_Back.body : Code := Try.f25.body.getD .skip
def span_Back.calls (k : Nat) : List (Nat × Sig E.toTys) := [(43, span_within.sig k), (19, tower_Bit.sig k), (44, span_Solve.sig k), (18, tower_Add.sig k)]
def span_Back.cuts : List (Cut E (RT E.toTys [(true, .slice (.st 0)), (false, .int .i64)])) := [⟨true, 7, ⟨cat [.one (.val (.slice (.st 0)))] (cat (ds 3) (cat [.one (.ref 0)] (cat (ds 17) (cat [.one (.val (.int .i64)), .one (.val (.int .i64))] (ds 30))))), [.arr (.st 0)], false⟩, fun k x => span_Back.l7 k x.1.1 x.1.2.1 x.1.2.2.1 x.2.1⟩,
  ⟨true, 14, ⟨cat [.one (.val (.slice (.st 0)))] (cat (ds 3) (cat [.one (.ref 0)] (cat (ds 3) (cat [.one (.ptr 1 0)] (cat (ds 13) (cat [.one (.val (.int .i64)), .one (.val (.int .i64))] (cat (ds 11) (cat [.one (.ref 2), .one (.val (.int .i64)), .one (.val (.int .i64))] (ds 16))))))))), [.arr (.st 0), .var [.val (.int .u64), .val (.int .u64)], .arr (.bool)], false⟩, fun k x => span_Back.l14 k x.1.1 x.1.2.1 x.1.2.2.1 x.1.2.2.2.1 x.1.2.2.2.2.1 x.2.1 x.2.2.1.1 x.2.2.1.2.1 x.2.2.2.1⟩]
theorem span_Back.ok (k : Nat) : Okf (XR E) Try.prog 25 (span_Back.sig k) := ⟨fn_ok (C := fun k => tab.ctx fun f => lk f (span_Back.calls k)) (fun k => tie _) k (fun j hj => calls_ok (kc (span_within.ok j) (kc (tower_Bit.ok j) (kc (span_Solve.ok j) (kc (tower_Add.ok j) (kn)))))) 400 Try.func25 (body := span_Back.body) (res := [.tmp 2, .tmp 3]) rfl (by kernel_rfl) span_Back.cuts (kc ⟨by kernel_rfl, rfl, fun _ => rfl, fun _ _ => by kernel_rfl⟩ (kc ⟨by kernel_rfl, rfl, fun _ => rfl, fun _ _ => by kernel_rfl⟩ (kn))) (fun x => by kernel_rfl), _, Try.func25, by kernel_rfl, by kernel_rfl⟩
/-! ### steeple/frob.fits: function 26 -/
def frob_fits.f (k : Nat) (a0 : Int) (a1 : Int) (a2 : S34) : Option Bool := (octet_Of.f k a0 a2).bind fun r0 => if r0 = true then (if a1 ≥ 0 then some (decide (a1 ≤ a0)) else some false) else some false
def frob_fits.sig (k : Nat) : Sig E.toTys := ⟨[.int .i64, .int .i64, .st 0], [(false, .bool)], none, fun x => f k x.1 x.2.1 x.2.2.1⟩
noncomputable def frob_fits.body : Code := Try.f26.body.getD .skip
def frob_fits.calls (k : Nat) : List (Nat × Sig E.toTys) := [(28, octet_Of.sig k)]
def frob_fits.cuts : List (Cut E (RT E.toTys [(false, .bool)])) := []
theorem frob_fits.ok (k : Nat) : Okf (XR E) Try.prog 26 (frob_fits.sig k) := ⟨fn_ok (C := fun k => tab.ctx fun f => lk f (frob_fits.calls k)) (fun k => tie _) k (fun j hj => calls_ok (kc (octet_Of.ok j) (kn))) 400 Try.func26 (body := frob_fits.body) (res := [.tmp 6]) rfl (by kernel_rfl) frob_fits.cuts (kn) (fun x => by kernel_rfl), _, Try.func26, by kernel_rfl, by kernel_rfl⟩
/-! ### steeple/tower.Square: function 46 -/
def tower_Square.f (k : Nat) (a0 : Int) (a1 : S34) : Option S34 := (octet_Of.f k a0 a1).bind fun r0 => if (!r0) = true then some (⟨0, 0⟩ : S34) else if a0 ≤ 6 then ((tower_square.f k a0 a1.f1).bind fun r1 => some (⟨0, r1⟩ : S34)) else (tower_square.f k 6 a1.f0).bind fun r2 => (tower_mulX.f k 6 r2).bind fun r3 => (tower_square.f k 6 a1.f1).bind fun r4 => some (⟨r3, bits .xor .u64 r4 r2⟩ : S34)
def tower_Square.sig (k : Nat) : Sig E.toTys := ⟨[.int .i64, .st 0], [(false, .st 0)], none, fun x => f k x.1 x.2.1⟩
noncomputable def tower_Square.body : Code := Try.f46.body.getD .skip
def tower_Square.calls (k : Nat) : List (Nat × Sig E.toTys) := [(28, octet_Of.sig k), (74, tower_square.sig k), (30, tower_mulX.sig k)]
def tower_Square.cuts : List (Cut E (RT E.toTys [(false, .st 0)])) := []
theorem tower_Square.ok (k : Nat) : Okf (XR E) Try.prog 46 (tower_Square.sig k) := ⟨fn_ok (C := fun k => tab.ctx fun f => lk f (tower_Square.calls k)) (fun k => tie _) k (fun j hj => calls_ok (kc (octet_Of.ok j) (kc (tower_square.ok j) (kc (tower_mulX.ok j) (kn))))) 400 Try.func46 (body := tower_Square.body) (res := [.cell 4 34]) rfl (by kernel_rfl) tower_Square.cuts (kn) (fun x => by kernel_rfl), _, Try.func46, by kernel_rfl, by kernel_rfl⟩
/-! ### steeple/frob.Trace: function 9, by hand -/
def frob_Trace.sq (k : Nat) (lv : Int) (x : T.S) : Option T.S := (tower_Square.f k lv (⟨x.f0, x.f1⟩ : S34)).map fun y => ⟨y.f0, y.f1⟩
def frob_Trace.ad (x y : T.S) : T.S := ⟨bits .xor .u64 x.f0 y.f0, bits .xor .u64 x.f1 y.f1⟩
def frob_Trace.f (k : Nat) (a0 : Int) (a1 : Int) (a2 : S34) : Option S34 := (frob_fits.f k a0 a1 a2).bind fun r0 => if (!r0) = true then some (⟨0, 0⟩ : S34) else if 0 ≤ a1 ∧ a1 ≤ a0 ∧ a0 ≤ 7 then (T.go (frob_Trace.sq k a0) frob_Trace.ad (2 ^ a1.toNat) (2 ^ (a0 - a1).toNat) ⟨a2.f0, a2.f1⟩ ⟨0, 0⟩).map fun y => ⟨y.f0, y.f1⟩ else none
def frob_Trace.sig (k : Nat) : Sig E.toTys := ⟨[.int .i64, .int .i64, .st 0], [(false, .st 0)], none, fun x => frob_Trace.f k x.1 x.2.1 x.2.2.1⟩
theorem frob_Trace.rep {w : World} {ok : Nat → Prop} {x : S34} {cs : List Value} : Rep (XR E) w ok (.st 0) x cs ↔ cs = [.int .u64 x.f0, .int .u64 x.f1] := by
  refine (Rep.st (X := XR E) (n := 0) (x := x)).trans ?_
  constructor
  · rintro ⟨v, r, rfl, _, h1, v', r', rfl, _, h2, h3⟩
    have h1 := Rep.int.1 h1
    have h2 := Rep.int.1 h2
    have h3 : r' = [] := h3
    cases h1
    cases h2
    cases h3
    rfl
  · rintro rfl
    exact ⟨_, _, rfl, rfl, Rep.int.2 rfl, _, _, rfl, rfl, Rep.int.2 rfl, rfl⟩
theorem frob_Trace.ret {w w' : World} {okA : Nat → Prop} {x : S34} {e : Ending} : RetOK (XR E) w okA [(false, .st 0)] x e w' ↔ e = .returned (.agg #[.int .u64 x.f0, .int .u64 x.f1]) ∧ Below w.heap.size w w' := by
  constructor
  · rintro ⟨us, os, rfl, hb, ⟨v, o, rfl, rfl, rfl, cs, h1, rfl⟩, _⟩
    rw [frob_Trace.rep.1 h1]
    exact ⟨rfl, hb⟩
  · rintro ⟨rfl, hb⟩
    exact ⟨[.agg #[.int .u64 x.f0, .int .u64 x.f1]], [none], rfl, hb, ⟨_, _, rfl, rfl, rfl, _, frob_Trace.rep.2 rfl, rfl⟩, fun b hb => by simp at hb⟩
theorem frob_Trace.args {w : World} {ok : Nat → Prop} {lv to : Int} {a : S34} {vs : List Value} (h : ArgsRep (XR E) w ok [.int .i64, .int .i64, .st 0] (lv, to, a, ()) vs) : vs = [.int .i64 lv, .int .i64 to, .agg #[.int .u64 a.f0, .int .u64 a.f1]] := by
  obtain ⟨v0, r0, c0, rfl, h0, rfl, v1, r1, c1, rfl, h1, rfl, v2, r2, c2, rfl, h2, rfl, h3⟩ := h
  have h3 : r2 = [] := h3
  rw [Rep.int.1 h0, Rep.int.1 h1, frob_Trace.rep.1 h2, h3]
  rfl
theorem frob_Trace.ok (k : Nat) : Okf (XR E) Try.prog 9 (frob_Trace.sig k) := by
  refine ⟨?_, _, Try.func9, by kernel_rfl, by kernel_rfl⟩
  rintro ⟨lv, to, a, ⟨⟩⟩ r hx w okA vs hA hargs
  rw [frob_Trace.args hargs]
  have hx : frob_Trace.f k lv to a = some r := hx
  unfold frob_Trace.f at hx
  cases hf : frob_fits.f k lv to a with
  | none => rw [hf] at hx; cases hx
  | some bf =>
  rw [hf] at hx
  have hFit : ∀ W : World, Calls Try.prog 26 #[.int .i64 lv, .int .i64 to, T.enc ⟨a.f0, a.f1⟩] W fun e W' => e = .returned (.bool bf) ∧ Below W.heap.size W W' := fun W => by
    have h := (frob_fits.ok k).1 (lv, to, a, ()) bf hf W (fun _ => False) [.int .i64 lv, .int .i64 to, .agg #[.int .u64 a.f0, .int .u64 a.f1]] (fun b hb => hb.elim) ⟨_, _, _, rfl, Rep.int.2 rfl, rfl, _, _, _, rfl, Rep.int.2 rfl, rfl, _, _, _, rfl, frob_Trace.rep.2 rfl, rfl, rfl⟩
    refine h.mono ?_
    rintro e W' ⟨us, os, rfl, hb, ⟨v, o, rfl, rfl, rfl, cs, h1, rfl⟩, _⟩
    rw [Rep.bool.1 h1]
    exact ⟨rfl, hb⟩
  have hSq : ∀ x x' : T.S, frob_Trace.sq k lv x = some x' → ∀ W : World, Calls Try.prog 46 #[.int .i64 lv, T.enc x] W fun e W' => e = .returned (T.enc x') ∧ Below W.heap.size W W' := fun x x' hq W => by
    unfold frob_Trace.sq at hq
    cases h0 : tower_Square.f k lv (⟨x.f0, x.f1⟩ : S34) with
    | none => rw [h0] at hq; cases hq
    | some y =>
      rw [h0] at hq
      cases hq
      have h := (tower_Square.ok k).1 (lv, (⟨x.f0, x.f1⟩ : S34), ()) y h0 W (fun _ => False) [.int .i64 lv, .agg #[.int .u64 x.f0, .int .u64 x.f1]] (fun b hb => hb.elim) ⟨_, _, _, rfl, Rep.int.2 rfl, rfl, _, _, _, rfl, frob_Trace.rep.2 rfl, rfl, rfl⟩
      exact h.mono fun e W' h1 => frob_Trace.ret.1 h1
  have hAdd : ∀ x y : T.S, ∀ W : World, Calls Try.prog 18 #[T.enc x, T.enc y] W fun e W' => e = .returned (T.enc (frob_Trace.ad x y)) ∧ Below W.heap.size W W' := fun x y W => by
    have h := (tower_Add.ok k).1 ((⟨x.f0, x.f1⟩ : S34), (⟨y.f0, y.f1⟩ : S34), ()) ⟨bits .xor .u64 x.f0 y.f0, bits .xor .u64 x.f1 y.f1⟩ rfl W (fun _ => False) [.agg #[.int .u64 x.f0, .int .u64 x.f1], .agg #[.int .u64 y.f0, .int .u64 y.f1]] (fun b hb => hb.elim) ⟨_, _, _, rfl, frob_Trace.rep.2 rfl, rfl, _, _, _, rfl, frob_Trace.rep.2 rfl, rfl, rfl⟩
    exact h.mono fun e W' h1 => frob_Trace.ret.1 h1
  have fin : ∀ xs os : Nat → T.S, (bf = true → (0 ≤ to ∧ to ≤ lv ∧ lv ≤ 7) ∧ (∀ i, i < 2 ^ (lv - to).toNat → T.iter (frob_Trace.sq k lv) (2 ^ to.toNat) (xs i) = some (xs (i + 1))) ∧ xs 0 = ⟨a.f0, a.f1⟩ ∧ os 0 = ⟨0, 0⟩ ∧ (∀ i, os (i + 1) = frob_Trace.ad (os i) (xs i)) ∧ os (2 ^ (lv - to).toNat) = ⟨r.f0, r.f1⟩) → (bf = false → (⟨r.f0, r.f1⟩ : T.S) = ⟨0, 0⟩) →
      Calls Try.prog 9 #[.int .i64 lv, .int .i64 to, .agg #[.int .u64 a.f0, .int .u64 a.f1]] w (RetOK (XR E) w okA [(false, .st 0)] r) := fun xs os h1 h2 =>
    (callsIn_wide.1 (T.tr lv to ⟨a.f0, a.f1⟩ ⟨r.f0, r.f1⟩ xs os (frob_Trace.sq k lv) frob_Trace.ad hSq hAdd bf hFit h1 h2 w)).mono fun e W' h => frob_Trace.ret.2 h
  cases bf with
  | false =>
    cases hx
    exact fin (fun _ => ⟨0, 0⟩) (fun _ => ⟨0, 0⟩) (fun h => by cases h) fun _ => rfl
  | true =>
    have hx : (if 0 ≤ to ∧ to ≤ lv ∧ lv ≤ 7 then (T.go (frob_Trace.sq k lv) frob_Trace.ad (2 ^ to.toNat) (2 ^ (lv - to).toNat) ⟨a.f0, a.f1⟩ ⟨0, 0⟩).map fun y => (⟨y.f0, y.f1⟩ : S34) else none) = some r := hx
    by_cases c : 0 ≤ to ∧ to ≤ lv ∧ lv ≤ 7
    · rw [if_pos c] at hx
      cases hg : T.go (frob_Trace.sq k lv) frob_Trace.ad (2 ^ to.toNat) (2 ^ (lv - to).toNat) ⟨a.f0, a.f1⟩ ⟨0, 0⟩ with
      | none => rw [hg] at hx; cases hx
      | some q =>
        rw [hg] at hx
        cases hx
        obtain ⟨xs, os, h0, h1, h2, h3, h4⟩ := T.go_seq _ _ _ _ _ _ _ hg
        exact fin xs os (fun _ => ⟨c, h2, h0, h1, h3, h4⟩) fun h => by cases h
    · rw [if_neg c] at hx
      cases hx
/-! ### steeple/frob.Dual: function 7 -/
mutual
def frob_Dual.l6 : Nat → Int → Int → Int → Int → List S34 → Option (List S34)
  | 0, _, _, _, _, _ => none
  | k + 1, x0, x1, x2, x3, x4 => if x3 < x2 then frob_Dual.l9 k x0 x1 x3 x2 x3 x1 0 x4 else (span_Back.f k x4).bind fun r1 => some r1.1
def frob_Dual.l9 : Nat → Int → Int → Int → Int → Int → Int → Int → List S34 → Option (List S34)
  | 0, _, _, _, _, _, _, _, _ => none
  | k + 1, x0, x1, x2, x3, x4, x5, x6, x7 => if x6 < x5 then ((tower_Bit.f k x2).bind fun r2 => (tower_Bit.f k x6).bind fun r3 => (tower_Mul.f k x0 r2 r3).bind fun r4 => (frob_Trace.f k x0 0 r4).bind fun r5 => (tower_One.f k).bind fun r6 => if r5.f0 = r6.f0 ∧ r5.f1 = r6.f1 then (if 0 ≤ x6 then (if x6 < (x7.length : Int) then ((tower_Bit.f k x2).bind fun r7 => (tower_Add.f k (rd34 x7 x6) r7).bind fun r8 => if 0 ≤ x6 then (if x6 < (x7.length : Int) then frob_Dual.l9 k x0 x1 x2 x3 x4 x5 (wrap64 (x6 + 1)) (x7.set (Int.toNat x6) r8) else none) else none) else none) else none) else frob_Dual.l9 k x0 x1 x2 x3 x4 x5 (wrap64 (x6 + 1)) x7) else frob_Dual.l6 k x0 x1 x3 (wrap64 (x4 + 1)) x7
end
def frob_Dual.f (k : Nat) (a0 : Int) : Option (List S34) := (octet_Wide.f k a0).bind fun r0 => if r0 = 0 then some [] else if 0 ≤ a0 then (if 0 ≤ shl .i64 1 a0 then (if shl .i64 1 a0 ≤ 140737488355328 / ((16 : Nat) : Int) then frob_Dual.l6 k a0 (shl .i64 1 a0) (shl .i64 1 a0) 0 (List.replicate (Int.toNat (shl .i64 1 a0)) z34) else none) else none) else none
def frob_Dual.sig (k : Nat) : Sig E.toTys := ⟨[.int .i64], [(true, .slice (.st 0))], none, fun x => f k x.1⟩
noncomputable def frob_Dual.body : Code := Try.f7.body.getD .skip
def frob_Dual.calls (k : Nat) : List (Nat × Sig E.toTys) := [(24, octet_Wide.sig k), (25, span_Back.sig k), (19, tower_Bit.sig k), (10, tower_Mul.sig k), (9, frob_Trace.sig k), (11, tower_One.sig k), (18, tower_Add.sig k)]
def frob_Dual.cuts : List (Cut E (RT E.toTys [(true, .slice (.st 0))])) := [⟨true, 6, ⟨cat [.one (.val (.int .i64))] (cat (ds 2) (cat [.one (.val (.int .i64)), .one (.ref 0)] (cat (ds 11) (cat [.one (.val (.int .i64)), .one (.val (.int .i64))] (ds 34))))), [.arr (.st 0)], false⟩, fun k x => frob_Dual.l6 k x.1.1 x.1.2.1 x.1.2.2.1 x.1.2.2.2.1 x.2.1⟩,
  ⟨true, 9, ⟨cat [.one (.val (.int .i64))] (cat (ds 2) (cat [.one (.val (.int .i64)), .one (.ref 0), .one (.val (.int .i64))] (cat (ds 10) (cat [.one (.val (.int .i64)), .one (.val (.int .i64))] (cat (ds 2) (cat [.one (.val (.int .i64)), .one (.val (.int .i64))] (ds 30))))))), [.arr (.st 0)], false⟩, fun k x => frob_Dual.l9 k x.1.1 x.1.2.1 x.1.2.2.1 x.1.2.2.2.1 x.1.2.2.2.2.1 x.1.2.2.2.2.2.1 x.1.2.2.2.2.2.2.1 x.2.1⟩]
theorem frob_Dual.ok (k : Nat) : Okf (XR E) Try.prog 7 (frob_Dual.sig k) := ⟨fn_ok (C := fun k => tab.ctx fun f => lk f (frob_Dual.calls k)) (fun k => tie _) k (fun j hj => calls_ok (kc (octet_Wide.ok j) (kc (span_Back.ok j) (kc (tower_Bit.ok j) (kc (tower_Mul.ok j) (kc (frob_Trace.ok j) (kc (tower_One.ok j) (kc (tower_Add.ok j) (kn))))))))) 400 Try.func7 (body := frob_Dual.body) (res := [.tmp 2]) rfl (by kernel_rfl) frob_Dual.cuts (kc ⟨by kernel_rfl, rfl, fun _ => rfl, fun _ _ => by kernel_rfl⟩ (kc ⟨by kernel_rfl, rfl, fun _ => rfl, fun _ _ => by kernel_rfl⟩ (kn))) (fun x => by kernel_rfl), _, Try.func7, by kernel_rfl, by kernel_rfl⟩
/-! ### steeple/steepleref15.Two: function 8 -/
def steepleref15_Two.l3 : Nat → Int → Int → Int → Option Int
  | 0, _, _, _ => none
  | k + 1, x0, x1, x2 => if x2 < x0 then steepleref15_Two.l3 k x0 (wrap64 (2 * x1)) (wrap64 (x2 + 1)) else some x1
def steepleref15_Two.f (k : Nat) (a0 : Int) : Option Int := steepleref15_Two.l3 k a0 1 0
def steepleref15_Two.sig (k : Nat) : Sig E.toTys := ⟨[.int .i64], [(false, .int .i64)], none, fun x => f k x.1⟩
noncomputable def steepleref15_Two.body : Code := Try.f8.body.getD .skip
def steepleref15_Two.calls (k : Nat) : List (Nat × Sig E.toTys) := []
def steepleref15_Two.cuts : List (Cut E (RT E.toTys [(false, .int .i64)])) := [⟨true, 3, ⟨cat [.one (.val (.int .i64))] (cat (ds 2) (cat [.one (.val (.int .i64)), .one (.val (.int .i64))] (ds 8))), [], false⟩, fun k x => steepleref15_Two.l3 k x.1.1 x.1.2.1 x.1.2.2.1⟩]
theorem steepleref15_Two.ok (k : Nat) : Okf (XR E) Try.prog 8 (steepleref15_Two.sig k) := ⟨fn_ok (C := fun k => tab.ctx fun f => lk f (steepleref15_Two.calls k)) (fun k => tie _) k (fun j hj => calls_ok (kn)) 400 Try.func8 (body := steepleref15_Two.body) (res := [.tmp 2]) rfl (by kernel_rfl) steepleref15_Two.cuts (kc ⟨by kernel_rfl, rfl, fun _ => rfl, fun _ _ => by kernel_rfl⟩ (kn)) (fun x => by kernel_rfl), _, Try.func8, by kernel_rfl, by kernel_rfl⟩
/-! ### steeple/steeplelaw01.Ref: function 13 -/
def steeplelaw01_Ref.l3 : Nat → List S34 → Int → List S39 → Option (List S39)
  | 0, _, _, _ => none
  | k + 1, x0, x1, x2 => if x1 < (x0.length : Int) then (if 0 ≤ x1 then (if x1 < (x0.length : Int) then (if x2.length + [(⟨(rd34 x0 x1).f0, (rd34 x0 x1).f1⟩ : S39)].length ≤ 140737488355328 / 16 then steeplelaw01_Ref.l3 k x0 (wrap64 (x1 + 1)) (x2 ++ [(⟨(rd34 x0 x1).f0, (rd34 x0 x1).f1⟩ : S39)]) else none) else none) else none) else some x2
def steeplelaw01_Ref.f (k : Nat) (a0 : List S34) : Option (List S39) := steeplelaw01_Ref.l3 k a0 0 []
def steeplelaw01_Ref.sig (k : Nat) : Sig E.toTys := ⟨[.slice (.st 0)], [(true, .slice (.st 4))], none, fun x => f k x.1⟩
noncomputable def steeplelaw01_Ref.body : Code := Try.f13.body.getD .skip
def steeplelaw01_Ref.calls (k : Nat) : List (Nat × Sig E.toTys) := []
def steeplelaw01_Ref.cuts : List (Cut E (RT E.toTys [(true, .slice (.st 4))])) := [⟨true, 3, ⟨cat [.one (.val (.slice (.st 0)))] (cat (ds 2) (cat [.one (.ref 0), .one (.val (.int .i64))] (ds 14))), [.arr (.st 4)], false⟩, fun k x => steeplelaw01_Ref.l3 k x.1.1 x.1.2.1 x.2.1⟩]
theorem steeplelaw01_Ref.ok (k : Nat) : Okf (XR E) Try.prog 13 (steeplelaw01_Ref.sig k) := ⟨fn_ok (C := fun k => tab.ctx fun f => lk f (steeplelaw01_Ref.calls k)) (fun k => tie _) k (fun j hj => calls_ok (kn)) 400 Try.func13 (body := steeplelaw01_Ref.body) (res := [.tmp 2]) rfl (by kernel_rfl) steeplelaw01_Ref.cuts (kc ⟨by kernel_rfl, rfl, fun _ => rfl, fun _ _ => by kernel_rfl⟩ (kn)) (fun x => by kernel_rfl), _, Try.func13, by kernel_rfl, by kernel_rfl⟩
/-! ### steeple/steepleref02.Bit: function 31 -/
def steepleref02_Bit.f (k : Nat) (a0 : Int) : Option S39 := if a0 < 0 then some (⟨0, 0⟩ : S39) else if a0 > 127 then some (⟨0, 0⟩ : S39) else if a0 > 63 then (if 0 ≤ IntKind.u64.wrap (wrap64 (a0 - 64)) then some (⟨shl .u64 1 (IntKind.u64.wrap (wrap64 (a0 - 64))), 0⟩ : S39) else none) else if 0 ≤ IntKind.u64.wrap a0 then some (⟨0, shl .u64 1 (IntKind.u64.wrap a0)⟩ : S39) else none
def steepleref02_Bit.sig (k : Nat) : Sig E.toTys := ⟨[.int .i64], [(false, .st 4)], none, fun x => f k x.1⟩
noncomputable def steepleref02_Bit.body : Code := Try.f31.body.getD .skip
def steepleref02_Bit.calls (k : Nat) : List (Nat × Sig E.toTys) := []
def steepleref02_Bit.cuts : List (Cut E (RT E.toTys [(false, .st 4)])) := []
theorem steepleref02_Bit.ok (k : Nat) : Okf (XR E) Try.prog 31 (steepleref02_Bit.sig k) := ⟨fn_ok (C := fun k => tab.ctx fun f => lk f (steepleref02_Bit.calls k)) (fun k => tie _) k (fun j hj => calls_ok (kn)) 400 Try.func31 (body := steepleref02_Bit.body) (res := [.cell 2 39]) rfl (by kernel_rfl) steepleref02_Bit.cuts (kn) (fun x => by kernel_rfl), _, Try.func31, by kernel_rfl, by kernel_rfl⟩
/-! ### steeple/steepleref02.Has: function 12 -/
def steepleref02_Has.f (k : Nat) (a0 : S39) (a1 : Int) : Option Bool := (steepleref02_Bit.f k a1).bind fun r0 => some (!decide (bits .or .u64 (bits .and .u64 a0.f1 r0.f1) (bits .and .u64 a0.f0 r0.f0) = 0))
def steepleref02_Has.sig (k : Nat) : Sig E.toTys := ⟨[.st 4, .int .i64], [(false, .bool)], none, fun x => f k x.1 x.2.1⟩
noncomputable def steepleref02_Has.body : Code := Try.f12.body.getD .skip
def steepleref02_Has.calls (k : Nat) : List (Nat × Sig E.toTys) := [(31, steepleref02_Bit.sig k)]
def steepleref02_Has.cuts : List (Cut E (RT E.toTys [(false, .bool)])) := []
theorem steepleref02_Has.ok (k : Nat) : Okf (XR E) Try.prog 12 (steepleref02_Has.sig k) := ⟨fn_ok (C := fun k => tab.ctx fun f => lk f (steepleref02_Has.calls k)) (fun k => tie _) k (fun j hj => calls_ok (kc (steepleref02_Bit.ok j) (kn))) 400 Try.func12 (body := steepleref02_Has.body) (res := [.tmp 4]) rfl (by kernel_rfl) steepleref02_Has.cuts (kn) (fun x => by kernel_rfl), _, Try.func12, by kernel_rfl, by kernel_rfl⟩
/-! ### steeple/steepletop.TopDual: function 3 -/
mutual
def steepletop_TopDual.j2 : Nat → Option Bool
  | 0 => none
  | k + 1 => (steepletop_fine.f k).bind fun r4 => some r4
def steepletop_TopDual.l10 : Nat → Int → Int → List Bool → List S34 → List S34 → List S34 → List S34 → Option Bool
  | 0, _, _, _, _, _, _, _ => none
  | k + 1, x0, x1, x2, x3, x4, x5, x6 => if x1 < (x2.length : Int) then (if (x6.length : Int) = 0 then none else if wrap64 (Int.tdiv x1 (x6.length : Int)) ≥ (x5.length : Int) then some false else if 0 ≤ wrap64 (Int.tdiv x1 (x6.length : Int)) then (if wrap64 (Int.tdiv x1 (x6.length : Int)) < (x5.length : Int) then (if (x6.length : Int) = 0 then none else if 0 ≤ Int.tmod x1 (x6.length : Int) then (if Int.tmod x1 (x6.length : Int) < (x6.length : Int) then ((tower_Mul.f k x0 (rd34 x5 (wrap64 (Int.tdiv x1 (x6.length : Int)))) (rd34 x6 (Int.tmod x1 (x6.length : Int)))).bind fun r5 => (frob_Trace.f k x0 0 r5).bind fun r6 => (tower_One.f k).bind fun r7 => if 0 ≤ x1 then (if x1 < (x2.length : Int) then (if (decide (r6.f0 = r7.f0 ∧ r6.f1 = r7.f1)) = (rdB x2 x1) then ((steeplelaw01_Ref.f k x5).bind fun r8 => if 0 ≤ wrap64 (Int.tdiv x1 (x6.length : Int)) then (if wrap64 (Int.tdiv x1 (x6.length : Int)) < (r8.length : Int) then (if (x6.length : Int) = 0 then none else (steepleref02_Has.f k (rd39 r8 (wrap64 (Int.tdiv x1 (x6.length : Int)))) (Int.tmod x1 (x6.length : Int))).bind fun r9 => if 0 ≤ x1 then (if x1 < (x2.length : Int) then (if r9 = (rdB x2 x1) then steepletop_TopDual.l10 k x0 (wrap64 (x1 + 1)) x2 x3 x4 x5 x6 else some false) else none) else none) else none) else none) else some false) else none) else none) else none) else none) else none) else none) else some true
end
def steepletop_TopDual.f (k : Nat) (a0 : Int) (a1 : S25) : Option Bool := if (a1.f0.length : Int) > 130 then steepletop_TopDual.j2 k else if a0 < 0 then steepletop_TopDual.j2 k else if a0 > 5 then steepletop_TopDual.j2 k else (steepletop_fine.f k).bind fun r0 => if (!r0) = true then steepletop_TopDual.j2 k else (ring_Pack.f k a0 a1.f0).bind fun r1 => if r1.2 = 0 then ((frob_Dual.f k a0).bind fun r2 => (steepleref15_Two.f k a0).bind fun r3 => if (r2.length : Int) = r3 then steepletop_TopDual.l10 k a0 0 a1.f0 a1.f1 a1.f2 r1.1 r2 else some false) else some true
def steepletop_TopDual.sig (k : Nat) : Sig E.toTys := ⟨[.int .i64, .st 1], [(false, .bool)], none, fun x => f k x.1 x.2.1⟩
noncomputable def steepletop_TopDual.body : Code := Try.f3.body.getD .skip
def steepletop_TopDual.calls (k : Nat) : List (Nat × Sig E.toTys) := [(5, steepletop_fine.sig k), (6, ring_Pack.sig k), (7, frob_Dual.sig k), (8, steepleref15_Two.sig k), (10, tower_Mul.sig k), (9, frob_Trace.sig k), (11, tower_One.sig k), (13, steeplelaw01_Ref.sig k), (12, steepleref02_Has.sig k)]
def steepletop_TopDual.cuts : List (Cut E (RT E.toTys [(false, .bool)])) := [⟨false, 2, ⟨ds 101, [], false⟩, fun k x => steepletop_TopDual.j2 k⟩,
  ⟨true, 10, ⟨cat [.one (.val (.int .i64))] (cat (ds 2) (cat [.one (.ptr 0 0)] (cat (ds 1) (cat [.one (.ref 1)] (cat (ds 1) (cat [.one (.ref 2), .one (.val (.int .i64))] (ds 92))))))), [.var [.val (.slice .bool), .val (.slice (.st 0)), .val (.slice (.st 0))], .arr (.st 0), .arr (.st 0)], false⟩, fun k x => steepletop_TopDual.l10 k x.1.1 x.1.2.1 x.2.1.1 x.2.1.2.1 x.2.1.2.2.1 x.2.2.1 x.2.2.2.1⟩]
theorem steepletop_TopDual.ok (k : Nat) : Okf (XR E) Try.prog 3 (steepletop_TopDual.sig k) := ⟨fn_ok (C := fun k => tab.ctx fun f => lk f (steepletop_TopDual.calls k)) (fun k => tie _) k (fun j hj => calls_ok (kc (steepletop_fine.ok j) (kc (ring_Pack.ok j) (kc (frob_Dual.ok j) (kc (steepleref15_Two.ok j) (kc (tower_Mul.ok j) (kc (frob_Trace.ok j) (kc (tower_One.ok j) (kc (steeplelaw01_Ref.ok j) (kc (steepleref02_Has.ok j) (kn))))))))))) 400 Try.func3 (body := steepletop_TopDual.body) (res := [.tmp 4]) rfl (by kernel_rfl) steepletop_TopDual.cuts (kc ⟨by kernel_rfl, rfl, fun _ => rfl, fun _ _ => by kernel_rfl⟩ (kc ⟨by kernel_rfl, rfl, fun _ => rfl, fun _ _ => by kernel_rfl⟩ (kn))) (fun x => by kernel_rfl), _, Try.func3, by kernel_rfl, by kernel_rfl⟩
end Go.Proofs.Ytfmjodlcjaflfaa.B

/- Own text: merged by pack2.py. -/
import Derived.Laws.Cover3
import Derived.Deep.Slices
import Derived.OpenShut
import Derived.ProofKit
import Derived.WideShapes
import Derived.Test.YtlamlgfngpmhgaaMBa
import Derived.Test.YtlamlgfngpmhgaaMBb
set_option linter.unusedSimpArgs false
set_option linter.unusedVariables false
namespace Go.Proofs.Ytlamlgfngpmhgaa.V.B
open Go.RowKit
set_option linter.unusedVariables false
set_option linter.unusedSimpArgs false
section
variable {E : Env} {X : XRep E} {w0 : W0} {w : World} {A : Nat → Prop} {φ φ' : Nat → Option Hd} {st : St E.toTys} {a : Act}
/-- What the new numbers stand for. -/
def Comp (φ : Nat → Option Hd) (en : List Ent) (φ' : Nat → Option Hd) : Prop := ∀ j, match nth .no en j with
  | .no => φ' j = none
  | .id i => φ' j = φ i ∧ φ i ≠ none
  | .nil => ∃ a, φ' j = some ⟨.slice a 0 0, none, 0⟩
abbrev Ext (φ φ' : Nat → Option Hd) : Prop := ∀ j h, φ j = some h → φ' j = some h
/-- What is known stays. -/
def Fix (en en' : List Ent) : Prop := en'.length = en.length ∧ ∀ j e, nth .no en j = e → (∀ h : e = .no, False) → nth .no en' j = e
theorem Fix.refl (en : List Ent) : Fix en en := ⟨rfl, fun _ _ h _ => h⟩
theorem Fix.trans {a b c : List Ent} (h : Fix a b) (k : Fix b c) : Fix a c := ⟨k.1.trans h.1, fun j e h1 h2 => k.2 j e (h.2 j e h1 h2) h2⟩
theorem nth_set {en : List Ent} {j i : Nat} {e : Ent} (h : j < en.length) : nth .no (put1 en j e) i = if i = j then e else nth .no en i := by
  rw [put1_eq, nth_eq, nth_eq, List.getD_eq_getElem?_getD, List.getD_eq_getElem?_getD, List.getElem?_set]
  by_cases he : j = i
  · subst he; simp [h]
  · rw [if_neg he, if_neg (fun e => he e.symm)]
theorem nth_lt {en : List Ent} {j : Nat} (h : nth .nil en j = .no) : j < en.length ∧ nth .no en j = .no := by
  rw [nth_eq, List.getD_eq_getElem?_getD] at h
  cases hj : en[j]? with
  | none => rw [hj] at h; cases h
  | some e =>
    rw [hj] at h
    have h : e = .no := h
    subst h
    exact ⟨(List.getElem?_eq_some_iff.1 hj).1, by rw [nth_eq, List.getD_eq_getElem?_getD, hj]; rfl⟩
theorem nth_id {en : List Ent} {j i : Nat} (h : nth .nil en j = .id i) : nth .no en j = .id i := by
  rw [nth_eq, List.getD_eq_getElem?_getD] at h ⊢
  cases hj : en[j]? with
  | none => rw [hj] at h; cases h
  | some e => rw [hj] at h; exact h
theorem Comp.set {en : List Ent} (h : Comp φ en φ') {j : Nat} (hj : j < en.length) (hn : nth .no en j = .no) {e : Ent} {k : Hd} (hk : match e with | .no => False | .id i => φ i = some k | .nil => ∃ a, k = ⟨.slice a 0 0, none, 0⟩) :
    Comp φ (put1 en j e) (setφ φ' j k) ∧ Ext φ' (setφ φ' j k) ∧ Fix en (put1 en j e) := by
  have hno : φ' j = none := by have := h j; rw [hn] at this; exact this
  refine ⟨fun i => ?_, setφ_ext hno, by rw [put1_eq, List.length_set], fun i e' h1 h2 => ?_⟩
  · rw [nth_set hj]
    by_cases hi : i = j
    · subst hi
      rw [if_pos rfl, setφ_same]
      cases e with
      | no => exact hk.elim
      | id i' => exact ⟨hk.symm, by rw [hk]; simp⟩
      | nil => obtain ⟨a, rfl⟩ := hk; exact ⟨a, rfl⟩
    · rw [if_neg hi, setφ_other k hi]
      exact h i
  · rw [nth_set hj]
    by_cases hi : i = j
    · subst hi; rw [hn] at h1; exact (h2 h1.symm).elim
    · rw [if_neg hi]; exact h1
/-- What one step of the matching gives. -/
structure Got (φ : Nat → Option Hd) (en en' : List Ent) (φ' : Nat → Option Hd) (Q : (Nat → Option Hd) → Prop) : Prop where
  out : ∃ φ'', Ext φ' φ'' ∧ Comp φ en' φ'' ∧ Fix en en' ∧ Q φ''
theorem setE_ok {ok : Nat → Prop} {en en' : List Ent} {j : Nat} {v : SV E.toTys} {u : Value} (h : setE en j v = some en') (hv : RS X φ w ok v u) (hc : Comp φ en φ') : ∃ φ'', Ext φ' φ'' ∧ Comp φ en' φ'' ∧ Fix en en' ∧ RS X φ'' w ok (.ref j : SV E.toTys) u := by
  unfold setE at h
  split at h
  · rename_i i
    obtain ⟨k, p, n, c, h1, h2, h3⟩ := hv
    split at h
    · rename_i hn
      cases h
      obtain ⟨hlt, hn⟩ := nth_lt hn
      obtain ⟨g1, g2, g3⟩ := hc.set (e := .id i) (k := k) hlt hn h1
      exact ⟨_, g2, g1, g3, k, p, n, c, setφ_same _ _, h2, h3⟩
    · rename_i i' hn
      split at h
      · rename_i he
        cases h
        have he := Nat.eq_of_beq_eq_true he
        subst he
        have := hc j
        rw [nth_id hn] at this
        exact ⟨φ', fun _ _ h => h, hc, .refl _, k, p, n, c, this.1.trans h1, h2, h3⟩
      · cases h
    · cases h
  · obtain ⟨p, rfl⟩ := hv
    split at h
    · rename_i hn
      cases h
      obtain ⟨hlt, hn⟩ := nth_lt hn
      obtain ⟨g1, g2, g3⟩ := hc.set (e := .nil) (k := ⟨.slice p 0 0, none, 0⟩) hlt hn ⟨p, rfl⟩
      exact ⟨_, g2, g1, g3, _, p, 0, 0, setφ_same _ _, rfl, rfl⟩
    · cases h
  · cases h
theorem setP_ok {ok : Nat → Prop} {en en' : List Ent} {j off : Nat} {v : SV E.toTys} {u : Value} (h : setP en j off v = some en') (hv : RS X φ w ok v u) (hc : Comp φ en φ') : ∃ φ'', Ext φ' φ'' ∧ Comp φ en' φ'' ∧ Fix en en' ∧ RS X φ'' w ok (.ptr j off : SV E.toTys) u := by
  unfold setP at h
  split at h
  · rename_i i o'
    obtain ⟨k, b, h1, h2, h3⟩ := hv
    split at h
    · rename_i ho
      have ho := Nat.eq_of_beq_eq_true ho
      subst ho
      split at h
      · rename_i hn
        cases h
        obtain ⟨hlt, hn⟩ := nth_lt hn
        obtain ⟨g1, g2, g3⟩ := hc.set (e := .id i) (k := k) hlt hn h1
        exact ⟨_, g2, g1, g3, k, b, setφ_same _ _, h2, h3⟩
      · rename_i i' hn
        split at h
        · rename_i he
          cases h
          have he := Nat.eq_of_beq_eq_true he
          subst he
          have := hc j
          rw [nth_id hn] at this
          exact ⟨φ', fun _ _ h => h, hc, .refl _, k, b, this.1.trans h1, h2, h3⟩
        · cases h
      · cases h
    · cases h
  · cases h
theorem val_ok (S : Sim X w0 A φ st a w) {t : Ty} {v : SV E.toTys} {x : den E.toTys t} {u : Value} (h : expS0 (fun _ => .gone) t v = some x) (hv : RS X φ w (okb A φ st.mem w) v u) (φ'' : Nat → Option Hd) : RS X φ'' w (okb A φ st.mem w) (.val t x) u :=
  ⟨hv.one, expS0_ok S.mm (fun _ => .inr rfl) (fun _ h => h) (fun id e _ _ _ _ => by subst e; exact (exp_live h).elim) h hv⟩
theorem mS_ok (S : Sim X w0 A φ st a w) : ∀ {l : List Sl} {en en' : List Ent} {vs : List (SV E.toTys)} {us : List Value} {x : PayS E.toTys l} {φ' : Nat → Option Hd}, mS l en vs = some (x, en') → All2 (RS X φ w (okb A φ st.mem w)) vs us → Comp φ en φ' →
    ∃ φ'', Ext φ' φ'' ∧ Comp φ en' φ'' ∧ Fix en en' ∧ All2 (RS X φ'' w (okb A φ st.mem w)) (bS l x) us
  | [], en, en', [], us, x, φ', h, hv, hc => by
    simp only [mS, Option.some.injEq, Prod.mk.injEq] at h
    obtain ⟨_, rfl⟩ := h
    cases hv
    exact ⟨φ', fun _ _ h => h, hc, .refl _, .nil⟩
  | [], en, en', v :: vs, us, x, φ', h, hv, hc => by simp [mS] at h
  | s :: l, en, en', [], us, x, φ', h, hv, hc => by cases s <;> simp [mS] at h
  | s :: l, en, en', v :: vs, _, x, φ', h, .cons (b := u) (m := us) h1 h2, hc => by
    have up : ∀ {φ1 φ2 : Nat → Option Hd} {s : SV E.toTys}, Ext φ1 φ2 → RS X φ1 w (okb A φ st.mem w) s u → RS X φ2 w (okb A φ st.mem w) s u := fun hf h => h.mono hf fun b hb => ⟨hb, rfl⟩
    cases s with
    | dead =>
      simp only [mS] at h
      obtain ⟨φ'', g1, g2, g3, g4⟩ := mS_ok S h h2 hc
      exact ⟨φ'', g1, g2, g3, .cons h1.one g4⟩
    | val t =>
      simp only [mS] at h
      split at h
      · rename_i y z en1 hy hr
        simp only [Option.some.injEq, Prod.mk.injEq] at h
        obtain ⟨rfl, rfl⟩ := h
        obtain ⟨φ'', g1, g2, g3, g4⟩ := mS_ok S hr h2 hc
        exact ⟨φ'', g1, g2, g3, .cons (val_ok S hy h1 φ'') g4⟩
      · cases h
    | ref j =>
      simp only [mS] at h
      split at h
      · rename_i en1 he
        obtain ⟨φ1, k1, k2, k3, k4⟩ := setE_ok he h1 hc
        obtain ⟨φ'', g1, g2, g3, g4⟩ := mS_ok S h h2 k2
        exact ⟨φ'', fun j h e => g1 j h (k1 j h e), g2, k3.trans g3, .cons (up g1 k4) g4⟩
      · cases h
    | ptr j off =>
      simp only [mS] at h
      split at h
      · rename_i en1 he
        obtain ⟨φ1, k1, k2, k3, k4⟩ := setP_ok he h1 hc
        obtain ⟨φ'', g1, g2, g3, g4⟩ := mS_ok S h h2 k2
        exact ⟨φ'', fun j h e => g1 j h (k1 j h e), g2, k3.trans g3, .cons (up g1 k4) g4⟩
      · cases h
theorem unS_ok {ok : Nat → Prop} : ∀ {cs : List (CV E.toTys)} {l : List (SV E.toTys)} {us : List Value}, unS cs = some l → All2 (RC X φ w ok) cs us → All2 (RS X φ w ok) l us
  | [], l, us, h, k => by simp only [unS, Option.some.injEq] at h; subst h; cases k; exact .nil
  | c :: cs, l, _, h, .cons (b := u) (m := us) k1 k2 => by
    unfold unS at h
    split at h
    · rename_i e; cases e
    · cases h
    · rename_i v r hd e
      cases e
      split at h
      · rename_i l' hl
        cases h
        exact .cons (k1 (by rintro rfl; exact hd rfl)) (unS_ok hl k2)
      · cases h
    · cases h
theorem rdT_sub {p : PA} {l : List PA} {v : AV E.toTys} {vs : List (AV E.toTys)} {id : Nat} (h : id ∈ rdT l vs) : id ∈ rdT (p :: l) (v :: vs) := by
  unfold rdT
  split
  · rename_i e1 e2
    simp only [List.cons.injEq] at e1 e2
    obtain ⟨_, rfl⟩ := e1
    obtain ⟨_, rfl⟩ := e2
    exact List.mem_cons_of_mem _ h
  · rename_i e1 e2
    simp only [List.cons.injEq] at e1 e2
    obtain ⟨_, rfl⟩ := e1
    obtain ⟨_, rfl⟩ := e2
    exact h
  · rename_i hn
    exact absurd rfl (hn _ _ _ _ rfl)
theorem val_ok1 (S : Sim X w0 A φ st a w) {ok1 : Nat → Prop} (hok1 : ∀ b, okb A φ st.mem w b → ok1 b) {t : Ty} {v : SV E.toTys} {x : den E.toTys t} {u : Value} (hr : ∀ id, v = .ref id → ∀ m hd b, st.mem[id]? = some m → live m → φ id = some hd → hd.blk = some b → ok1 b)
    (h : expS0 (fun id => nth .gone st.mem id) t v = some x) (hv : RS X φ w (okb A φ st.mem w) v u) (φ'' : Nat → Option Hd) : RS X φ'' w ok1 (.val t x) u :=
  ⟨hv.one, expS0_ok S.mm (fun _ => .inl rfl) hok1 (fun id e hd b e1 e2 => by
    subst e
    have hl := exp_live h
    exact hr id rfl _ hd b (rd_live (fun _ => .inl rfl) hl) hl e1 e2) h hv⟩
theorem mT_ok (S : Sim X w0 A φ st a w) {ok1 : Nat → Prop} (hok1 : ∀ b, okb A φ st.mem w b → ok1 b) : ∀ {l : List PA} {en en' : List Ent} {vs : List (AV E.toTys)} {us : List Value} {x : PayT E.toTys l} {φ' : Nat → Option Hd}, (∀ id ∈ rdT l vs, ∀ m hd b, st.mem[id]? = some m → live m → φ id = some hd → hd.blk = some b → ok1 b) →
    mT st.mem l en vs = some (x, en') → All2 (RA X φ w (okb A φ st.mem w)) vs us → Comp φ en φ' → ∃ φ'', Ext φ' φ'' ∧ Comp φ en' φ'' ∧ Fix en en' ∧ All2 (RA X φ'' w ok1) (bT l x) us
  | [], en, en', [], us, x, φ', hr1, h, hv, hc => by
    simp only [mT, Option.some.injEq, Prod.mk.injEq] at h
    obtain ⟨_, rfl⟩ := h
    cases hv
    exact ⟨φ', fun _ _ h => h, hc, .refl _, .nil⟩
  | [], en, en', v :: vs, us, x, φ', hr1, h, hv, hc => by simp [mT] at h
  | p :: l, en, en', [], us, x, φ', hr1, h, hv, hc => by
    cases p with
    | one s => cases s <;> simp [mT] at h
    | _ => simp [mT] at h
  | p :: l, en, en', v :: vs, _, x, φ', hr1, h, .cons (b := u) (m := us) h1 h2, hc => by
    have up : ∀ {φ1 φ2 : Nat → Option Hd} {s : SV E.toTys}, Ext φ1 φ2 → RS X φ1 w (okb A φ st.mem w) s u → RS X φ2 w ok1 s u := fun hf h => h.mono hf fun b hb => ⟨hok1 b hb, rfl⟩
    have hr2 : ∀ id ∈ rdT l vs, ∀ m hd b, st.mem[id]? = some m → live m → φ id = some hd → hd.blk = some b → ok1 b := fun id hid => hr1 id (rdT_sub hid)
    cases p with
    | one s =>
      cases s with
      | dead =>
        simp only [mT] at h
        obtain ⟨φ'', g1, g2, g3, g4⟩ := mT_ok S hok1 hr2 h h2 hc
        exact ⟨φ'', g1, g2, g3, .cons (fun h => absurd rfl h) g4⟩
      | val t =>
        cases v with
        | c cv =>
          cases cv with
          | s v =>
            simp only [mT] at h
            split at h
            · rename_i y z en1 hy hr
              simp only [Option.some.injEq, Prod.mk.injEq] at h
              obtain ⟨rfl, rfl⟩ := h
              have hv := h1 (by rintro rfl; simp [expS0] at hy)
              obtain ⟨φ'', g1, g2, g3, g4⟩ := mT_ok S hok1 hr2 hr h2 hc
              exact ⟨φ'', g1, g2, g3, .cons (RA.s (val_ok1 S hok1 (fun id hid => hr1 id (by subst hid; simp [rdT])) hy hv φ'')) g4⟩
            · cases h
          | _ => simp [mT] at h
        | _ => simp [mT] at h
      | ref j =>
        cases v with
        | c cv =>
          cases cv with
          | s v =>
            simp only [mT] at h
            split at h
            · rename_i en1 he
              have hv := h1 (by rintro rfl; simp [setE] at he)
              obtain ⟨φ1, k1, k2, k3, k4⟩ := setE_ok he hv hc
              obtain ⟨φ'', g1, g2, g3, g4⟩ := mT_ok S hok1 hr2 h h2 k2
              exact ⟨φ'', fun j h e => g1 j h (k1 j h e), g2, k3.trans g3, .cons (RA.s (up g1 k4)) g4⟩
            · cases h
          | _ => simp [mT] at h
        | _ => simp [mT] at h
      | ptr j off =>
        cases v with
        | c cv =>
          cases cv with
          | s v =>
            simp only [mT] at h
            split at h
            · rename_i en1 he
              have hv := h1 (by rintro rfl; simp [setP] at he)
              obtain ⟨φ1, k1, k2, k3, k4⟩ := setP_ok he hv hc
              obtain ⟨φ'', g1, g2, g3, g4⟩ := mT_ok S hok1 hr2 h h2 k2
              exact ⟨φ'', fun j h e => g1 j h (k1 j h e), g2, k3.trans g3, .cons (RA.s (up g1 k4)) g4⟩
            · cases h
          | _ => simp [mT] at h
        | _ => simp [mT] at h
    | agg ls =>
      cases v with
      | c cv =>
        cases cv with
        | agg cs =>
          simp only [mT] at h
          split at h
          · rename_i y en1 hy
            split at h
            · rename_i z en2 hr
              simp only [Option.some.injEq, Prod.mk.injEq] at h
              obtain ⟨rfl, rfl⟩ := h
              obtain ⟨ws, rfl, hw⟩ := h1
              obtain ⟨φ1, k1, k2, k3, k4⟩ := mS_ok S hy hw hc
              obtain ⟨φ'', g1, g2, g3, g4⟩ := mT_ok S hok1 hr2 hr h2 k2
              exact ⟨φ'', fun j h e => g1 j h (k1 j h e), g2, k3.trans g3, .cons ⟨ws, rfl, k4.mono fun _ _ h => h.mono g1 fun b hb => ⟨hok1 b hb, rfl⟩⟩ g4⟩
            · cases h
          · cases h
        | _ => simp [mT] at h
      | _ => simp [mT] at h
    | arr n t =>
      cases v with
      | arr m u' xs =>
        simp only [mT] at h
        split at h
        · rename_i y z en1 hy hr
          simp only [Option.some.injEq, Prod.mk.injEq] at h
          obtain ⟨rfl, rfl⟩ := h
          obtain ⟨e, he⟩ := conv_some hy
          cases e
          have he : xs = y := he
          subst he
          obtain ⟨φ'', g1, g2, g3, g4⟩ := mT_ok S hok1 hr2 hr h2 hc
          exact ⟨φ'', g1, g2, g3, .cons (by obtain ⟨cs, e, hh⟩ := h1; exact ⟨cs, e, hh.mono fun b hb => ⟨hok1 b hb, rfl⟩⟩) g4⟩
        · cases h
      | _ => simp [mT] at h
    | clo f ls =>
      cases v with
      | clo g cs =>
        simp only [mT] at h
        split at h
        · rename_i ws hfg hun
          have hfg := Nat.eq_of_beq_eq_true hfg
          subst hfg
          split at h
          · rename_i y en1 hy
            split at h
            · rename_i z en2 hr
              simp only [Option.some.injEq, Prod.mk.injEq] at h
              obtain ⟨rfl, rfl⟩ := h
              obtain ⟨vs', rfl, hw⟩ := h1
              obtain ⟨φ1, k1, k2, k3, k4⟩ := mS_ok S hy (unS_ok hun hw) hc
              obtain ⟨φ'', g1, g2, g3, g4⟩ := mT_ok S hok1 hr2 hr h2 k2
              refine ⟨φ'', fun j h e => g1 j h (k1 j h e), g2, k3.trans g3, .cons ⟨vs', rfl, ?_⟩ g4⟩
              have := k4.mono fun _ _ h => RS.mono g1 (fun b hb => ⟨hok1 b hb, rfl⟩) h
              clear hw hy hun k4 up
              generalize bS ls y = l at this
              induction this with
              | nil => exact .nil
              | cons q1 _ ih => exact .cons (RC.mk q1) ih
            · cases h
          · cases h
        · cases h
      | _ => simp [mT] at h
/-- The rows that the numbers stand for. -/
def RowsOf (st : St E.toTys) (en : List Ent) (j : Nat) (m : Blk E.toTys) (φ : Nat → Option Hd) : Prop := (nth .no en j = .nil ∧ ∃ h, φ j = some h ∧ h.blk = none) ∨ ∃ i m0, nth .no en j = .id i ∧ st.mem[i]? = some m0 ∧ live m0
theorem mM_ok (S : Sim X w0 A φ st a w) : ∀ {l : List PM} {j : Nat} {en en' : List Ent} {x : PayM E.toTys l} {φ' : Nat → Option Hd}, mM st.mem l j en = some (x, en') → Comp φ en φ' →
    ∃ φ'', Ext φ' φ'' ∧ Comp φ en' φ'' ∧ Fix en en' ∧ ∀ (k : Nat) m, (bM l x)[k]? = some m → live m ∧ RM X φ'' w (okb A φ st.mem w) (j + k) m ∧ RowsOf st en' (j + k) m φ''
  | [], j, en, en', x, φ', h, hc => by
    simp only [mM, Option.some.injEq, Prod.mk.injEq] at h
    obtain ⟨_, rfl⟩ := h
    exact ⟨φ', fun _ _ h => h, hc, .refl _, fun k m hk => by simp [bM] at hk⟩
  | p :: l, j, en, en', x, φ', h, hc => by
    have fin : ∀ {y : PayM E.toTys l} {en1 : List Ent} {φ1 : Nat → Option Hd} {m : Blk E.toTys}, Ext φ' φ1 → Comp φ en1 φ1 → Fix en en1 → live m → RM X φ1 w (okb A φ st.mem w) j m → (∃ h, φ1 j = some h) → RowsOf st en1 j m φ1 → mM st.mem l (j + 1) en1 = some (y, en') →
        ∃ φ'', Ext φ' φ'' ∧ Comp φ en' φ'' ∧ Fix en en' ∧ ∀ (k : Nat) m', (m :: bM l y)[k]? = some m' → live m' ∧ RM X φ'' w (okb A φ st.mem w) (j + k) m' ∧ RowsOf st en' (j + k) m' φ'' := by
      intro y en1 φ1 m h1 h2 h3 h4 h5 h6 h7 h8
      obtain ⟨φ'', g1, g2, g3, g4⟩ := mM_ok S h8 h2
      obtain ⟨hh, h6⟩ := h6
      refine ⟨φ'', fun j h e => g1 j h (h1 j h e), g2, h3.trans g3, fun k m' hk => ?_⟩
      cases k with
      | zero =>
        simp at hk
        subst hk
        refine ⟨h4, RM.mono g1 (fun b hb => ⟨hb, rfl⟩) ((g1 j hh h6).trans h6.symm) (fun _ _ _ _ _ => rfl) h5, ?_⟩
        rcases h7 with ⟨q1, q2, q3, q4⟩ | ⟨i, m0, q1, q2⟩
        · exact .inl ⟨g3.2 _ _ q1 (by simp), q2, g1 _ _ q3, q4⟩
        · exact .inr ⟨i, m0, g3.2 _ _ q1 (by simp), q2⟩
      | succ k =>
        have := g4 k m' (by simpa using hk)
        rwa [Nat.add_assoc, Nat.add_comm 1] at this
    have get : ∀ {i : Nat} {m : Blk E.toTys}, nth .gone st.mem i = m → live m → st.mem[i]? = some m := fun h hl => rd_some (rd := fun id => nth .gone st.mem id) (fun _ => .inl rfl) h hl
    cases p with
    | var ls =>
      simp only [mM] at h
      split at h
      · rename_i i hi
        split at h
        · rename_i cs hm
          split at h
          · rename_i y en1 hy
            split at h
            · rename_i z en2 hz
              simp only [Option.some.injEq, Prod.mk.injEq] at h
              obtain ⟨rfl, rfl⟩ := h
              have hm' := get hm trivial
              obtain ⟨b, c, e, q1, q2, q3⟩ := S.mm i _ hm'
              obtain ⟨φ1, k1, k2, k3, k4⟩ := mS_ok S hy q3 hc
              have hj := hc j
              rw [nth_id hi] at hj
              have hj1 : φ1 j = some _ := k1 j _ (hj.1.trans q1)
              exact fin k1 k2 k3 trivial ⟨b, c, e, hj1, q2, k4⟩ ⟨_, hj1⟩ (.inr ⟨i, _, k3.2 _ _ (nth_id hi) (by simp), hm', trivial⟩) hz
            · cases h
          · cases h
        · cases h
      · cases h
    | arr t =>
      simp only [mM] at h
      split at h
      · rename_i i hi
        split at h
        · rename_i u xs hm
          split at h
          · rename_i y z en1 hy hz
            simp only [Option.some.injEq, Prod.mk.injEq] at h
            obtain ⟨rfl, rfl⟩ := h
            obtain ⟨e, he⟩ := conv_some hy
            cases e
            have he : xs = y := he
            subst he
            have hm' := get hm trivial
            have hj := hc j
            rw [hi] at hj
            obtain ⟨ad, cap, bl, q1, q2⟩ := S.mm i _ hm'
            exact fin (fun _ _ h => h) hc (.refl _) trivial ⟨ad, cap, bl, hj.1.trans q1, q2⟩ ⟨_, hj.1.trans q1⟩ (.inr ⟨i, _, hi, hm', trivial⟩) hz
          · cases h
        · cases h
      · rename_i hi
        split at h
        · rename_i z en1 hz
          simp only [Option.some.injEq, Prod.mk.injEq] at h
          obtain ⟨rfl, rfl⟩ := h
          have hj := hc j
          rw [hi] at hj
          obtain ⟨ad, hj⟩ := hj
          exact fin (fun _ _ h => h) hc (.refl _) trivial ⟨ad, 0, none, hj, Nat.le_refl _, .inl ⟨rfl, rfl⟩⟩ ⟨_, hj⟩ (.inl ⟨hi, _, hj, rfl⟩) hz
        · cases h
      · cases h
    | avar n t =>
      simp only [mM] at h
      split at h
      · rename_i i hi
        split at h
        · rename_i m u xs hm
          split at h
          · rename_i y z en1 hy hz
            simp only [Option.some.injEq, Prod.mk.injEq] at h
            obtain ⟨rfl, rfl⟩ := h
            obtain ⟨e, he⟩ := conv_some hy
            cases e
            have he : xs = y := he
            subst he
            have hm' := get hm trivial
            have hj := hc j
            rw [nth_id hi] at hj
            obtain ⟨b, c, e, q1, q2⟩ := S.mm i _ hm'
            exact fin (fun _ _ h => h) hc (.refl _) trivial ⟨b, c, e, hj.1.trans q1, q2⟩ ⟨_, hj.1.trans q1⟩ (.inr ⟨i, _, nth_id hi, hm', trivial⟩) hz
          · cases h
        · cases h
      · cases h
theorem bM_len : ∀ {l : List PM} (x : PayM E.toTys l), (bM l x).length = l.length
  | [], _ => rfl
  | .var _ :: l, x => by simp [bM, bM_len]
  | .arr _ :: l, x => by simp [bM, bM_len]
  | .avar _ _ :: l, x => by simp [bM, bM_len]
theorem notIn_ne : ∀ {en : List Ent} {k j : Nat}, notIn k en = true → nth .no en j ≠ .id k := by
  intro en
  induction en with
  | nil => intro k j _ h; simp [nth] at h
  | cons e en ih =>
    intro k j h hj
    cases j with
    | zero =>
      simp only [nth] at hj
      subst hj
      simp [notIn] at h
    | succ j =>
      refine ih (k := k) (j := j) ?_ hj
      cases e <;> simp [notIn] at h <;> first | exact h | exact h.2
theorem offL_ne : ∀ {l : List Nat} {en : List Ent} {i j : Nat}, offL l en = true → i ∈ l → nth .no en j ≠ .id i
  | [], _, _, _, _, h => by cases h
  | k :: l, en, i, j, h, hi => by
    simp only [offL, Bool.and_eq_true] at h
    rcases List.mem_cons.1 hi with rfl | hi
    · exact notIn_ne h.1
    · exact offL_ne h.2 hi
theorem apart_ne : ∀ {en : List Ent} {i j k : Nat}, apart en = true → nth .no en i = .id k → nth .no en j = .id k → i = j
  | [], i, j, k, _, h, _ => by simp [nth] at h
  | e :: en, i, j, k, ha, h1, h2 => by
    have notin : ∀ {en : List Ent} {k j : Nat}, notIn k en = true → nth .no en j ≠ .id k := by
      intro en
      induction en with
      | nil => intro k j _ h; simp [nth] at h
      | cons e en ih =>
        intro k j h hj
        cases j with
        | zero =>
          simp only [nth] at hj
          subst hj
          simp [notIn] at h
        | succ j =>
          refine ih (k := k) (j := j) ?_ hj
          cases e <;> simp [notIn] at h <;> first | exact h | exact h.2
    have hrest : apart en = true := by cases e <;> simp [apart] at ha <;> first | exact ha | exact ha.2
    cases i with
    | zero =>
      simp only [nth] at h1
      subst h1
      cases j with
      | zero => rfl
      | succ j =>
        simp only [apart, Bool.and_eq_true] at ha
        exact absurd (show nth .no en j = .id k from h2) (notin ha.1)
    | succ i =>
      cases j with
      | zero =>
        simp only [nth] at h2
        subst h2
        simp only [apart, Bool.and_eq_true] at ha
        exact absurd (show nth .no en i = .id k from h1) (notin ha.1)
      | succ j => rw [apart_ne hrest h1 h2]
/-- Is a block handed on under the number 0? -/
def ioP (p : Pat) : Bool := match p.io, p.mem with
  | true, _ :: _ => true
  | _, _ => false
/-- A state in a fixed form stands for what the state stood for. -/
theorem match_ok (S : Sim X w0 A φ st a w) {p : Pat} (hio : w0.io.isSome = ioP p) {x : Pay E.toTys p} (h : matchP p st = some x) : ∃ φ', Sim X w0 A φ' (build p x) a w := by
  unfold matchP at h
  split at h
  · rename_i y en hy
    split at h
    · rename_i z en2 hz
      split at h
      · rename_i hap
        cases h
        have hall : All2 (RA X φ w (okb A φ st.mem w)) st.tmps a.tmps.toList := All2.of_get (by simpa using S.sz.symm) fun i v u hv hu => by
          obtain ⟨u', h1, h2⟩ := S.tm i v hv
          have : a.tmps[i]? = some u := by simpa using hu
          rw [this] at h1; cases h1; exact h2
        have hc0 : Comp φ (rep (len p.mem) .no) (fun _ => none) := by
          intro j
          have : nth .no (rep (len p.mem) .no) j = Ent.no := by
            rw [rep_eq, nth_eq, List.getD_eq_getElem?_getD]
            cases hj : (List.replicate (len p.mem) Ent.no)[j]? with
            | none => rfl
            | some e => exact List.eq_of_mem_replicate (List.mem_of_getElem? hj)
          rw [this]
        have hc1 : ∃ φ0, Comp φ (ents p) φ0 ∧ (ents p).length = p.mem.length ∧ ∀ q, w0.io = some q → φ0 0 = φ 0 := by
          unfold ents
          unfold ioP at hio
          cases hpi : p.io with
          | false =>
            rw [hpi] at hio
            exact ⟨_, hc0, by rw [rep_eq, List.length_replicate, len_eq], fun q hq => by rw [hq] at hio; cases hio⟩
          | true =>
            rw [hpi] at hio
            cases hm : p.mem with
            | nil =>
              rw [hm] at hio hc0
              exact ⟨_, hc0, rfl, fun q hq => by rw [hq] at hio; cases hio⟩
            | cons m ms =>
              rw [hm] at hc0 hio
              obtain ⟨q, hq⟩ := Option.isSome_iff_exists.1 hio
              obtain ⟨h0, e1, _⟩ := S.io q hq
              obtain ⟨g1, g2, g3⟩ := hc0.set (j := 0) (e := .id 0) (k := h0) (by rw [rep_eq, List.length_replicate]; simp [len]) (by simp [len, rep, nth]) e1
              exact ⟨_, g1, by rw [put1_eq, List.length_set, rep_eq, List.length_replicate, len_eq], fun _ _ => by rw [setφ_same, e1]⟩
        obtain ⟨φ0, hc1, hel, hφ0⟩ := hc1
        simp only [Bool.and_eq_true] at hap
        obtain ⟨hap, hoff⟩ := hap
        obtain ⟨φ1, k1, k2, k3, k4⟩ := mT_ok S (ok1 := fun b => okb A φ st.mem w b ∨ ∃ id ∈ rdT p.tm st.tmps, ∃ m hd, st.mem[id]? = some m ∧ live m ∧ φ id = some hd ∧ hd.blk = some b) (fun b hb => .inl hb) (fun id hid m hd b h1 h2 h3 h4 => .inr ⟨id, hid, m, hd, h1, h2, h3, h4⟩) hy hall hc1
        obtain ⟨φ2, g1, g2, g3, g4⟩ := mM_ok S hz k2
        have hlen : en2.length = p.mem.length := by rw [g3.1, k3.1, hel]
        have row : ∀ {j : Nat} {m : Blk E.toTys}, (bM p.mem z)[j]? = some m → live m ∧ RM X φ2 w (okb A φ st.mem w) j m ∧ RowsOf st en2 j m φ2 := fun hj => by
          have := g4 _ _ hj
          rwa [Nat.zero_add] at this
        have old : ∀ {j : Nat} {m : Blk E.toTys} {h : Hd} {b : Nat}, (bM p.mem z)[j]? = some m → φ2 j = some h → h.blk = some b → ∃ i m0, nth .no en2 j = .id i ∧ st.mem[i]? = some m0 ∧ live m0 ∧ φ i = some h := by
          intro j m h b hj hφ hb
          obtain ⟨_, _, hr⟩ := row hj
          rcases hr with ⟨q1, k, q2, q3⟩ | ⟨i, m0, q1, q2, q3⟩
          · rw [hφ] at q2; cases q2; rw [hb] at q3; cases q3
          · have := g2 j
            rw [q1] at this
            exact ⟨i, m0, q1, q2, q3, this.1.symm.trans hφ⟩
        have hown : ∀ b, own φ2 (bM p.mem z) b → own φ st.mem b := by
          rintro b ⟨j, m, h, h1, h2, h3, h4⟩
          obtain ⟨i, m0, q1, q2, q3, q4⟩ := old h1 h3 h4
          exact ⟨i, m0, h, q2, q3, q4, h4⟩
        have hk : ∀ b, okb A φ st.mem w b → okb A φ2 (bM p.mem z) w b ∧ w.heap[b]? = w.heap[b]? := fun b hb => ⟨⟨hb.1, hb.2.1, fun ho => hb.2.2 (hown b ho)⟩, rfl⟩
        have hk1 : ∀ b, (okb A φ st.mem w b ∨ ∃ id ∈ rdT p.tm st.tmps, ∃ m hd, st.mem[id]? = some m ∧ live m ∧ φ id = some hd ∧ hd.blk = some b) → okb A φ2 (bM p.mem z) w b ∧ w.heap[b]? = w.heap[b]? := by
          rintro b (hb | ⟨id, hid, m, hd, q1, q2, q3, q4⟩)
          · exact hk b hb
          · have hob : own φ st.mem b := ⟨id, m, hd, q1, q2, q3, q4⟩
            refine ⟨⟨S.blk_lt hob, S.al b (S.new b hob), ?_⟩, rfl⟩
            rintro ⟨j, m', h', p1, p2, p3, p4⟩
            obtain ⟨i, m0, r1, r2, r3, r4⟩ := old p1 p3 p4
            have := S.sep i id m0 m h' hd b r2 q1 r3 q2 r4 q3 p4 q4
            subst this
            exact offL_ne hoff hid r1
        have hT := k4.mono fun _ _ h => RA.mono g1 hk1 h
        refine ⟨φ2, ?_, fun i v hv => ?_, fun j m hj => RM.mono (fun _ _ h => h) hk rfl (fun _ _ _ _ _ => rfl) (row hj).2.1, fun j hj => ?_, fun i j q r hi hj b h1 h2 l1 l2 e1 e2 b1 b2 => ?_, fun b ho => S.new b (hown b ho), S.bel, S.df, S.al, fun q hq => ?_⟩
        · show a.tmps.size = (bT p.tm y).length
          rw [hT.length]; simp
        · obtain ⟨u, h1, h2⟩ := hT.get hv
          exact ⟨u, by simpa using h1, h2⟩
        · have hj : (bM p.mem z).length ≤ j := hj
          rw [bM_len, ← hlen] at hj
          have := g2 j
          have hn : nth .no en2 j = .no := by rw [nth_eq, List.getD_eq_getElem?_getD, List.getElem?_eq_none hj]; rfl
          rw [hn] at this
          exact this
        · obtain ⟨i', m0, q1, q2, q3, q4⟩ := old h1 e1 b1
          obtain ⟨j', m1, q5, q6, q7, q8⟩ := old h2 e2 b2
          have := S.sep i' j' m0 m1 hi hj b q2 q6 q3 q7 q4 q8 b1 b2
          subst this
          exact apart_ne hap q1 q5
        · obtain ⟨h0, e1, e2⟩ := S.io q hq
          exact ⟨h0, g1 _ _ (k1 _ _ ((hφ0 q hq).trans e1)), e2⟩
      · cases h
    · cases h
  · cases h
end
end Go.Proofs.Ytlamlgfngpmhgaa.V.B
namespace Go.Proofs.Ytlamlgfngpmhgaa.V.B
open Go.RowKit
set_option linter.unusedVariables false
set_option linter.unusedSimpArgs false
def lk {α : Type} (t : Nat) : List (Nat × α) → Option α
  | [] => none
  | (u, x) :: r => match Nat.beq u t with
    | true => some x
    | false => lk t r
def lkf (t f : Nat) : List (Nat × Nat × Nat × Nat) → Option (Nat × Nat)
  | [] => none
  | (u, g, o, ft) :: r => match Nat.beq u t, Nat.beq g f with
    | true, true => some (o, ft)
    | _, _ => lkf t f r
def lkn (d t : Nat) : List (Nat × Nat) → Nat
  | [] => d
  | (u, x) :: r => match Nat.beq u t with
    | true => x
    | false => lkn d t r
/-- Types, fields (type, field, place, the field's type), bytes of a slice's element, structs of numbers that are compared. -/
structure Tab where
  tys : List (Nat × Ty)
  flds : List (Nat × Nat × Nat × Nat)
  bys : List (Nat × Nat)
  eqs : List (Nat × Nat)
  strs : List Nat
def isIn (t : Nat) : List Nat → Bool
  | [] => false
  | u :: r => Nat.beq u t || isIn t r
def Tab.ctx {E : Env} (tb : Tab) (calls : Nat → Option (Sig E.toTys)) : Ctx E := ⟨fun t => lk t tb.tys, fun t f => lkf t f tb.flds, fun t => lkn 1 t tb.bys, fun t => lkn 0 t tb.eqs, fun t => isIn t tb.strs, calls, fun _ _ _ => true, fun _ => none, fun _ => none⟩
def z1 : Ty → Value → Bool
  | .int k, .int k' x => decide (k = k') && decide (x = 0)
  | .bool, .bool b => !b
  | .slice _, .slice none 0 0 => true
  | .ptr _, .pointer none => true
  | .any, .nilIface => true
  | _, _ => false
def zsC : List Ty → List Value → Bool
  | [], [] => true
  | t :: ts, v :: vs => z1 t v && zsC ts vs
  | _, _ => false
def zN (f : List Value → Bool) (n : Nat) : Nat → List Value → Bool
  | 0, [] => true
  | 0, _ => false
  | k + 1, l => f (l.take n) && zN f n k (l.drop n)
def zC (E : Env) : Ty → List Value → Bool
  | .st n, cs => zsC (E.fs n) cs
  | .arr n t, cs => zN (zC E t) (sz E t) n cs
  | t, [v] => z1 t v
  | _, _ => false
def zl (E : Env) : (ts : List Ty) → HL E.toTys ts
  | [] => ()
  | t :: ts => (dflt E t, zl E ts)
section
variable {E : Env} {X : XRep E} {w : World} {ok : Nat → Prop}
theorem z1_ok {t : Ty} {v : Value} (h : z1 t v = true) : v.oneCell' = true ∧ Rep X w ok t (dflt E t) [v] ∧ ∃ s, zs (T := E.toTys) t = some s ∧ ∀ φ w ok, RS X φ w ok s v := by
  unfold z1 at h
  split at h
  · rename_i k k' x
    simp only [Bool.and_eq_true, decide_eq_true_eq] at h
    obtain ⟨rfl, rfl⟩ := h
    exact ⟨rfl, Rep.int.2 rfl, _, rfl, fun φ w ok => ⟨rfl, Rep.int.2 rfl⟩⟩
  · rename_i b
    cases b <;> first | (cases h; done) | skip
    exact ⟨rfl, Rep.bool.2 rfl, _, rfl, fun φ w ok => ⟨rfl, Rep.bool.2 rfl⟩⟩
  · exact ⟨rfl, Rep.slice.2 ⟨none, 0, rfl, Nat.le_refl _, fun h => absurd rfl h⟩, _, rfl, fun φ w ok => ⟨none, rfl⟩⟩
  · exact ⟨rfl, Rep.nil.2 rfl, _, rfl, fun φ w ok => rfl⟩
  · exact ⟨rfl, Rep.any.2 rfl, _, rfl, fun φ w ok => ⟨rfl, Rep.any.2 rfl⟩⟩
  · cases h
theorem zsC_ok : ∀ {ts : List Ty} {cs : List Value}, zsC ts cs = true → RVL (Rep X w ok) ts (zl E ts) cs ∧ ∃ ss, mapO (zs (T := E.toTys)) ts = some ss ∧ ∀ φ w ok, All2 (RS X φ w ok) ss cs
  | [], [], h => ⟨rfl, [], rfl, fun _ _ _ => .nil⟩
  | [], _ :: _, h => by cases h
  | _ :: _, [], h => by cases h
  | t :: ts, v :: vs, h => by
    simp only [zsC, Bool.and_eq_true] at h
    obtain ⟨h1, h2, s, h3, h4⟩ := z1_ok (X := X) (w := w) (ok := ok) h.1
    obtain ⟨g1, ss, g2, g3⟩ := zsC_ok h.2
    exact ⟨⟨v, vs, rfl, h1, h2, g1⟩, s :: ss, by simp only [mapO, h3, g2], fun φ w ok => .cons (h4 φ w ok) (g3 φ w ok)⟩
theorem zN_ok {f : List Value → Bool} {n : Nat} {p : List Value → Prop} (hf : ∀ l, f l = true → l.length = n ∧ p l) : ∀ {k : Nat} {l : List Value}, zN f n k l = true → l.length = k * n ∧ ∀ j, j < k → p ((l.drop (j * n)).take n)
  | 0, [], h => ⟨by simp, fun j hj => absurd hj (Nat.not_lt_zero _)⟩
  | 0, _ :: _, h => by cases h
  | k + 1, l, h => by
    simp only [zN, Bool.and_eq_true] at h
    obtain ⟨h1, h2⟩ := hf _ h.1
    obtain ⟨h3, h4⟩ := zN_ok hf h.2
    rw [List.length_take] at h1
    rw [List.length_drop] at h3
    refine ⟨by rw [Nat.add_mul, Nat.one_mul]; omega, fun j hj => ?_⟩
    cases j with
    | zero => simpa using h2
    | succ j =>
      have := h4 j (by omega)
      rwa [List.drop_drop, Nat.add_comm n, show j * n + n = (j + 1) * n by rw [Nat.add_mul, Nat.one_mul]] at this
theorem zC_len : ∀ {t : Ty} {cs : List Value}, zC E t cs = true → cs.length = sz E t
  | .st n, cs, h => by
    have : ∀ {ts : List Ty} {cs : List Value}, zsC ts cs = true → cs.length = ts.length := by
      intro ts
      induction ts with
      | nil => intro cs h; cases cs <;> first | rfl | cases h
      | cons t ts ih =>
        intro cs h
        cases cs with
        | nil => cases h
        | cons v vs =>
          simp only [zsC, Bool.and_eq_true] at h
          simp [ih h.2]
    simp only [sz, len_eq]
    exact this h
  | .arr n t, cs, h => (zN_ok (p := fun _ => True) (fun l hl => ⟨zC_len hl, trivial⟩) h).1
  | .int k, [v], h => rfl
  | .bool, [v], h => rfl
  | .slice t, [v], h => rfl
  | .ptr t, [v], h => rfl
  | .ext n t, [v], h => rfl
  | .fnv n, [v], h => rfl
  | .em, [v], h => rfl
  | .any, [v], h => rfl
  | .int k, [], h => by cases h
  | .bool, [], h => by cases h
  | .slice t, [], h => by cases h
  | .ptr t, [], h => by cases h
  | .ext n t, [], h => by cases h
  | .fnv n, [], h => by cases h
  | .em, [], h => by cases h
  | .any, [], h => by cases h
  | .int k, _ :: _ :: _, h => by cases h
  | .bool, _ :: _ :: _, h => by cases h
  | .slice t, _ :: _ :: _, h => by cases h
  | .ptr t, _ :: _ :: _, h => by cases h
  | .ext n t, _ :: _ :: _, h => by cases h
  | .fnv n, _ :: _ :: _, h => by cases h
  | .em, _ :: _ :: _, h => by cases h
  | .any, _ :: _ :: _, h => by cases h
theorem zC_ok (hz : ∀ n, E.to n (E.z n) = zl E (E.fs n)) : ∀ {t : Ty} {cs : List Value}, zC E t cs = true → Rep X w ok t (dflt E t) cs ∧ ∀ ss, zcells E t = some ss → ∀ φ w ok, All2 (RS X φ w ok) ss cs
  | .st n, cs, h => by
    obtain ⟨h1, ss, h2, h3⟩ := zsC_ok (X := X) (w := w) (ok := ok) (ts := E.fs n) h
    refine ⟨Rep.st.2 (by show RVL _ _ (E.to n (E.z n)) _; rw [hz]; exact h1), fun ss' hs => ?_⟩
    simp only [zcells] at hs
    rw [h2] at hs
    cases hs
    exact h3
  | .arr n t, cs, h => by
    have := zN_ok (p := fun l => Rep X w ok t (dflt E t) l) (fun l hl => ⟨zC_len hl, (zC_ok hz hl).1⟩) h
    refine ⟨Rep.arr.2 ⟨by show (List.replicate n _).length = n; simp, this.1, fun j x hx => ?_⟩, fun ss hs => by simp [zcells, zs] at hs⟩
    have hx : (List.replicate n (dflt E t))[j]? = some x := hx
    obtain ⟨hj, hx⟩ := List.getElem?_eq_some_iff.1 hx
    rw [List.getElem_replicate] at hx
    rw [← hx]
    exact this.2 j (by simpa using hj)
  | .int k, [v], h => by obtain ⟨_, h2, s, h3, h4⟩ := z1_ok (X := X) (w := w) (ok := ok) h; exact ⟨h2, fun ss hs => by simp only [zcells, h3] at hs; cases hs; exact fun φ w ok => .cons (h4 φ w ok) .nil⟩
  | .bool, [v], h => by obtain ⟨_, h2, s, h3, h4⟩ := z1_ok (X := X) (w := w) (ok := ok) h; exact ⟨h2, fun ss hs => by simp only [zcells, h3] at hs; cases hs; exact fun φ w ok => .cons (h4 φ w ok) .nil⟩
  | .slice t, [v], h => by obtain ⟨_, h2, s, h3, h4⟩ := z1_ok (X := X) (w := w) (ok := ok) h; exact ⟨h2, fun ss hs => by simp only [zcells, h3] at hs; cases hs; exact fun φ w ok => .cons (h4 φ w ok) .nil⟩
  | .ptr t, [v], h => by obtain ⟨_, h2, s, h3, h4⟩ := z1_ok (X := X) (w := w) (ok := ok) h; exact ⟨h2, fun ss hs => by simp only [zcells, h3] at hs; cases hs; exact fun φ w ok => .cons (h4 φ w ok) .nil⟩
  | .ext n t, [v], h => by cases v <;> cases h
  | .fnv n, [v], h => by cases v <;> cases h
  | .em, [v], h => by cases v <;> cases h
  | .any, [v], h => by obtain ⟨_, h2, s, h3, h4⟩ := z1_ok (X := X) (w := w) (ok := ok) h; exact ⟨h2, fun ss hs => by simp only [zcells, h3] at hs; cases hs; exact fun φ w ok => .cons (h4 φ w ok) .nil⟩
  | .int k, [], h => by cases h
  | .bool, [], h => by cases h
  | .slice t, [], h => by cases h
  | .ptr t, [], h => by cases h
  | .ext n t, [], h => by cases h
  | .fnv n, [], h => by cases h
  | .em, [], h => by cases h
  | .any, [], h => by cases h
  | .int k, _ :: _ :: _, h => by cases h
  | .bool, _ :: _ :: _, h => by cases h
  | .slice t, _ :: _ :: _, h => by cases h
  | .ptr t, _ :: _ :: _, h => by cases h
  | .ext n t, _ :: _ :: _, h => by cases h
  | .fnv n, _ :: _ :: _, h => by cases h
  | .em, _ :: _ :: _, h => by cases h
  | .any, _ :: _ :: _, h => by cases h
end
def isTy (tb : Tab) (e : Nat) (u : Ty) : Bool := match lk e tb.tys with
  | some v => decide (v = u)
  | none => false
def fsOK (P : Program) : List Field → Bool
  | [] => true
  | f :: r => (P.info? f.type).isSome && fsOK P r
def chkD (P : Program) (tb : Tab) (t : Nat) (ty : Ty) (d : TypeDesc) : Bool := match ty, d with
  | .int k, .int k' => decide (k = k')
  | .bool, .bool => true
  | .slice u, .slice e => isTy tb e u && match P.info? e with
    | some i => Nat.beq i.bytes (lkn 1 t tb.bys) && Nat.blt 0 i.bytes
    | none => false
  | .ptr _, .pointer _ => true
  | .any, .interface _ => true
  | .st _, .struct fs => fsOK P fs.toList
  | .arr n u, .array m e => Nat.beq n m && isTy tb e u
  | _, _ => false
def isAggV (ty : Ty) (z : Value) : Bool := match ty, z with
  | .st _, .agg _ => true
  | .st _, _ => false
  | _, _ => true
def chkT (E : Env) (P : Program) (tb : Tab) (t : Nat) (ty : Ty) : Bool := match P.info? t with
  | some i => match i.zero with
    | some z => isAggV ty z && zC E ty z.cells.toList && Nat.beq i.size (sz E ty) && Nat.blt 0 (sz E ty) && match P.underlying t with
      | some d => chkD P tb t ty d
      | none => false
    | none => false
  | none => false
def chkTs (E : Env) (P : Program) (tb : Tab) : List (Nat × Ty) → Bool
  | [] => true
  | (t, ty) :: r => chkT E P tb t ty && chkTs E P tb r
def chkFs (P : Program) (tb : Tab) : List (Nat × Nat × Nat × Nat) → Bool
  | [] => true
  | (t, f, o, ft) :: r => (match P.underlying t with
    | some (.struct fs) => match fs[f]? with
      | some fd => Nat.beq fd.offset o && Nat.beq fd.type ft && (lk ft tb.tys).isSome
      | none => false
    | _ => false) && chkFs P tb r
def isIntT (P : Program) (t : Nat) : Bool := match P.underlying t with
  | some (.int _) => true
  | _ => false
def ef1B (P : Program) : List Field → Nat → Option Nat
  | [], off => some off
  | f :: fs, off => match decide (f.name ≠ "_") && (Nat.beq f.offset off && isIntT P f.type) with
    | true => ef1B P fs (off + 1)
    | false => none
def ef2B (P : Program) : List Field → Nat → Option Nat
  | [], off => some off
  | f :: fs, off => match decide (f.name ≠ "_") && Nat.beq f.offset off with
    | true => match isIntT P f.type with
      | true => ef2B P fs (off + 1)
      | false => match P.underlying f.type, P.info? f.type with
        | some (.struct gs), some i => match !P.stoodInHeld f.type, ef1B P gs.toList 0 with
          | true, some m => match Nat.beq m i.size with
            | true => ef2B P fs (off + i.size)
            | false => none
          | _, _ => none
        | _, _ => none
    | false => none
def isN (o : Option Nat) (n : Nat) : Bool := match o with
  | some m => Nat.beq m n
  | none => false
def chkEs (P : Program) : List (Nat × Nat) → Bool
  | [] => true
  | (t, n) :: r => (match P.underlying t with
    | some (.struct fs) => !P.stoodInHeld t && !P.eqGuardType P.depth t && isN (ef2B P fs.toList 0) n
    | _ => false) && chkEs P r
def chkSs (P : Program) : List Nat → Bool
  | [] => true
  | t :: r => (match P.underlying t with
    | some .string => true
    | _ => false) && chkSs P r
def Tab.chk (E : Env) (P : Program) (tb : Tab) : Bool := P.follows .mixedOrders && chkTs E P tb tb.tys && chkFs P tb tb.flds && chkEs P tb.eqs && chkSs P tb.strs
section
variable {E : Env} {P : Program} {tb : Tab}
theorem chkTs_spec {t : Nat} {ty : Ty} : ∀ {l : List (Nat × Ty)}, chkTs E P tb l = true → lk t l = some ty → chkT E P tb t ty = true
  | [], _, h => by cases h
  | (u, x) :: l, h1, h => by
    simp only [chkTs, Bool.and_eq_true] at h1
    simp only [lk] at h
    split at h
    · rename_i e
      cases h
      rw [← Nat.eq_of_beq_eq_true e]; exact h1.1
    · exact chkTs_spec h1.2 h
theorem chkFs_spec {t f o ft : Nat} : ∀ {l : List (Nat × Nat × Nat × Nat)}, chkFs P tb l = true → lkf t f l = some (o, ft) → ∃ fs fd, P.underlying t = some (.struct fs) ∧ fs[f]? = some fd ∧ fd.offset = o ∧ fd.type = ft ∧ ∃ ty, lk ft tb.tys = some ty
  | [], _, h => by cases h
  | (u, g, o', ft') :: l, h1, h => by
    simp only [chkFs, Bool.and_eq_true] at h1
    simp only [lkf] at h
    split at h
    · rename_i e1 e2
      cases h
      have e1 := Nat.eq_of_beq_eq_true e1
      have e2 := Nat.eq_of_beq_eq_true e2
      subst e1 e2
      have h1 := h1.1
      split at h1
      · rename_i fs hu
        split at h1
        · rename_i fd hf
          simp only [Bool.and_eq_true, Option.isSome_iff_exists] at h1
          exact ⟨fs, fd, hu, hf, Nat.eq_of_beq_eq_true h1.1.1, Nat.eq_of_beq_eq_true h1.1.2, h1.2⟩
        · cases h1
      · cases h1
    · exact chkFs_spec h1.2 h
theorem isIntT_spec {t : Nat} (h : isIntT P t = true) : ∃ k, P.underlying t = some (.int k) := by
  unfold isIntT at h
  split at h
  · exact ⟨_, by assumption⟩
  · cases h
theorem ef1B_spec : ∀ {l : List Field} {k e : Nat}, ef1B P l k = some e → EF1 P l k e
  | [], k, e, h => Option.some.inj h
  | f :: l, k, e, h => by
    simp only [ef1B] at h
    split at h
    · rename_i hc
      simp only [Bool.and_eq_true, decide_eq_true_eq] at hc
      exact ⟨hc.1, Nat.eq_of_beq_eq_true hc.2.1, isIntT_spec hc.2.2, ef1B_spec h⟩
    · cases h
theorem ef2B_spec : ∀ {l : List Field} {k e : Nat}, ef2B P l k = some e → EF2 P l k e
  | [], k, e, h => Option.some.inj h
  | f :: l, k, e, h => by
    simp only [ef2B] at h
    split at h
    · rename_i hc
      simp only [Bool.and_eq_true, decide_eq_true_eq] at hc
      refine ⟨hc.1, Nat.eq_of_beq_eq_true hc.2, ?_⟩
      split at h
      · rename_i hi
        exact .inl ⟨isIntT_spec hi, ef2B_spec h⟩
      · split at h
        · rename_i gs i hg hinf
          split at h
          · rename_i m hs hm
            split at h
            · rename_i hmi
              have := Nat.eq_of_beq_eq_true hmi
              subst this
              exact .inr ⟨gs, i, hg, by simpa using hs, hinf, ef1B_spec hm, ef2B_spec h⟩
            · cases h
          · cases h
        · cases h
    · cases h
theorem isN_spec {o : Option Nat} {n : Nat} (h : isN o n = true) : o = some n := by
  cases o with
  | none => cases h
  | some m => rw [Nat.eq_of_beq_eq_true h]
theorem chkEs_spec {t : Nat} : ∀ {l : List (Nat × Nat)}, chkEs P l = true → 0 < lkn 0 t l → ∃ fs, P.underlying t = some (.struct fs) ∧ P.stoodInHeld t = false ∧ P.eqGuardType P.depth t = false ∧ EF2 P fs.toList 0 (lkn 0 t l)
  | [], _, h => absurd h (Nat.lt_irrefl _)
  | (u, n) :: l, h1, h => by
    simp only [chkEs, Bool.and_eq_true] at h1
    simp only [lkn] at h ⊢
    split
    · rename_i e
      have e := Nat.eq_of_beq_eq_true e
      subst e
      have h1 := h1.1
      split at h1
      · rename_i fs hu
        simp only [Bool.and_eq_true, Bool.not_eq_true'] at h1
        exact ⟨fs, hu, h1.1.1, h1.1.2, ef2B_spec (isN_spec h1.2)⟩
      · cases h1
    · rename_i e
      rw [e] at h
      exact chkEs_spec h1.2 h
theorem chkSs_spec {t : Nat} : ∀ {l : List Nat}, chkSs P l = true → isIn t l = true → P.underlying t = some .string
  | [], _, h => by cases h
  | u :: l, h1, h => by
    simp only [chkSs, Bool.and_eq_true] at h1
    simp only [isIn, Bool.or_eq_true] at h
    rcases h with h | h
    · have := Nat.eq_of_beq_eq_true h
      subst this
      have h1 := h1.1
      split at h1
      · assumption
      · cases h1
    · exact chkSs_spec h1.2 h
/-- The types that a table names are the program's. -/
theorem tie_of (hz : ∀ n, E.to n (E.z n) = zl E (E.fs n)) (h : tb.chk E P = true) (calls : Nat → Option (Sig E.toTys)) : Tie (XR E) P (tb.ctx calls) := by
  simp only [Tab.chk, Bool.and_eq_true] at h
  obtain ⟨⟨⟨⟨h1, h2⟩, h3⟩, h4⟩, h5⟩ := h
  have hT : ∀ {t : Nat} {ty : Ty}, lk t tb.tys = some ty → ∃ i z d, P.info? t = some i ∧ i.zero = some z ∧ P.underlying t = some d ∧ isAggV ty z = true ∧ zC E ty z.cells.toList = true ∧ i.size = sz E ty ∧ 0 < sz E ty ∧ chkD P tb t ty d = true := by
    intro t ty ht
    have := chkTs_spec h2 ht
    unfold chkT at this
    split at this
    · rename_i i hi
      split at this
      · rename_i z hzz
        simp only [Bool.and_eq_true] at this
        obtain ⟨⟨⟨⟨a0, a1⟩, a2⟩, a3⟩, a4⟩ := this
        split at a4
        · rename_i d hd
          exact ⟨i, z, d, hi, hzz, hd, a0, a1, Nat.eq_of_beq_eq_true a2, Nat.le_of_ble_eq_true (n := 1) a3, a4⟩
        · cases a4
      · cases this
    · cases this
  have hI : ∀ {e : Nat} {u : Ty}, isTy tb e u = true → lk e tb.tys = some u := by
    intro e u h
    unfold isTy at h
    split at h
    · rename_i v hv
      rw [hv, of_decide_eq_true h]
    · cases h
  refine ⟨h1, fun t ht => chkSs_spec h5 ht, fun t ty ht => ?_, fun t ty ht => ?_, fun t f o ft hf => chkFs_spec h3 hf, fun t n ht fs hu f hf => ?_, fun t ht => chkEs_spec h4 ht, fun t n i' z' ht hi' hz' => ?_⟩
  · obtain ⟨i, z, d, a1, a2, a3, a0, a4, a5, a6, a7⟩ := hT ht
    exact ⟨i, z, a1, a2, a5, a6, fun w ok => (zC_ok hz a4).1, fun cs hcs => (zC_ok (X := XR E) (w := default) (ok := fun _ => True) hz a4).2 cs hcs⟩
  · obtain ⟨i, z, d, a1, a2, a3, a0, a4, a5, a6, a7⟩ := hT ht
    refine ⟨d, a3, ?_⟩
    unfold chkD at a7
    split at a7
    · exact of_decide_eq_true a7
    · trivial
    · simp only [Bool.and_eq_true] at a7
      refine ⟨hI a7.1, ?_⟩
      have := a7.2
      split at this
      · rename_i i' hi
        simp only [Bool.and_eq_true] at this
        exact ⟨i', hi, Nat.eq_of_beq_eq_true this.1, Nat.le_of_ble_eq_true (n := 1) this.2⟩
      · cases this
    · trivial
    · trivial
    · trivial
    · simp only [Bool.and_eq_true] at a7
      exact ⟨Nat.eq_of_beq_eq_true a7.1, hI a7.2⟩
    · cases a7
  · obtain ⟨i, z, d, a1, a2, a3, a0, a4, a5, a6, a7⟩ := hT ht
    rw [hu] at a3
    cases a3
    have : ∀ l : List Field, fsOK P l = true → ∀ f ∈ l, ∃ inf, P.info? f.type = some inf := by
      intro l
      induction l with
      | nil => intro _ f hf; cases hf
      | cons g l ih =>
        intro h f hf
        simp only [fsOK, Bool.and_eq_true] at h
        rcases List.mem_cons.1 hf with rfl | hf
        · exact Option.isSome_iff_exists.1 h.1
        · exact ih h.2 f hf
    exact this fs.toList a7 f (by simpa using hf)
  · obtain ⟨i, z, d, a1, a2, a3, a0, a4, a5, a6, a7⟩ := hT ht
    rw [hi'] at a1; cases a1
    rw [hz'] at a2; cases a2
    cases z' <;> first | exact ⟨_, rfl⟩ | cases a0
end
end Go.Proofs.Ytlamlgfngpmhgaa.V.B
namespace Go.Proofs.Ytlamlgfngpmhgaa.V.B
open Go.RowKit
set_option linter.unusedVariables false
set_option linter.unusedSimpArgs false
section
variable {E : Env} {X : XRep E} {P : Program} {C : Ctx E} {w0 : W0} {w : World} {A okA : Nat → Prop} {φ : Nat → Option Hd} {st : St E.toTys} {a : Act}
def resS (tmps : Array Value) (x : ResultVar) : Sem Value := match x with
  | .tmp t => pure (tmps.getD t undef)
  | .cell a t => do loadVar t (← asAddr (tmps.getD a undef))
theorem resv_ok (T : Tie X P C) (S : Sim X w0 A φ st a w) : ∀ {rv : List ResultVar} {l : List (AV E.toTys)}, resv C st rv = some l →
    ∃ us, (rv.mapM (resS a.tmps)).run P w = .ok us w ∧ All2 (RA X φ w (okb A φ st.mem w)) l us
  | [], l, h => by
    simp only [resv, Option.some.injEq] at h
    subst h
    exact ⟨[], rfl, .nil⟩
  | .tmp t :: rv, l, h => by
    simp only [resv] at h
    split at h
    · rename_i l' hl
      cases h
      obtain ⟨us, h1, h2⟩ := resv_ok T S hl
      refine ⟨a.tmps.getD t undef :: us, ?_, .cons (S.ev (.tmp t)) h2⟩
      have e : (resS a.tmps (.tmp t)).run P w = .ok (a.tmps.getD t undef) w := rfl
      rw [List.mapM_cons]
      simp only [Sem.run_bind, e, Sem.run_pure, Result.andThen_ok, h1]
    · cases h
  | .cell b t :: rv, l, h => by
    simp only [resv] at h
    split at h
    · rename_i v l' hv hl
      cases h
      obtain ⟨us, h1, h2⟩ := resv_ok T S hl
      obtain ⟨v', u, ad, k1, k2, k3, k4⟩ := load_run T S (fun _ => .inl rfl) (S.ev (.tmp b)) hv
      cases k1
      refine ⟨u :: us, ?_, .cons k4 h2⟩
      have k2 : a.tmps.getD b undef = .pointer (some ad) := k2
      have e : (resS a.tmps (.cell b t)).run P w = .ok u w := by
        simp only [resS, Sem.run_bind, k2, asAddr, Sem.run_pure, Result.andThen_ok, k3]
      rw [List.mapM_cons]
      simp only [Sem.run_bind, e, Sem.run_pure, Result.andThen_ok, h1]
    · cases h
theorem results_ok {fn : Func} {rv : List ResultVar} {us : List Value} (hr : fn.results.toList = rv) (h : (rv.mapM (resS a.tmps)).run P w = .ok us w) : (results fn a.tmps).run P w = .ok (retV us) w := by
  have e : results fn a.tmps = (do
    let vs ← fn.results.mapM (resS a.tmps)
    pure (if h : vs.size = 1 then vs[0] else .tuple vs)) := rfl
  rw [e, Array.mapM_eq_mapM_toList, hr]
  simp only [Sem.run_bind, Sem.run_map, h, Result.andThen_ok, Sem.run_pure]
  cases us with
  | nil => rfl
  | cons u us =>
    cases us with
    | nil => rfl
    | cons u' us => rfl
theorem memN_iff {i : Nat} : ∀ {l : List Nat}, memN i l = true ↔ i ∈ l
  | [] => by simp [memN]
  | j :: l => by
    simp only [memN, Bool.or_eq_true, List.mem_cons, memN_iff]
    constructor
    · rintro (h | h)
      · exact .inl (Nat.eq_of_beq_eq_true h)
      · exact .inr h
    · rintro (rfl | h)
      · exact .inl (Nat.beq_refl _)
      · exact .inr h
theorem distN_split : ∀ {l m : List Nat}, distN (l ++ m) = true → distN m = true ∧ ∀ i ∈ l, i ∉ m
  | [], m, h => ⟨h, fun i hi => by simp at hi⟩
  | j :: l, m, h => by
    simp only [List.cons_append, distN, Bool.and_eq_true, Bool.not_eq_true'] at h
    obtain ⟨h1, h2⟩ := distN_split h.2
    refine ⟨h1, fun i hi => ?_⟩
    rcases List.mem_cons.1 hi with rfl | hi
    · intro hm
      have : memN i (l ++ m) = true := memN_iff.2 (by simp [hm])
      rw [this] at h; cases h.1
    · exact h2 i hi
theorem ids_ref {id : Nat} : ∀ {l : List (SV E.toTys)}, .ref id ∈ l → id ∈ ids l
  | [], h => by simp at h
  | s :: l, h => by
    rcases List.mem_cons.1 h with rfl | h
    · simp [ids]
    · have := ids_ref h
      cases s <;> simp only [ids] <;> first | exact this | exact List.mem_cons_of_mem _ this
theorem idsA_ref {id : Nat} : ∀ {l : List (AV E.toTys)}, .ref id ∈ refsA l → id ∈ idsA l
  | [], h => by simp [refsA] at h
  | v :: l, h => by
    cases v with
    | c cv =>
      simp only [refsA, cat_eq, List.mem_append] at h
      simp only [idsA, cat_eq, List.mem_append]
      exact h.imp ids_ref idsA_ref
    | arr => exact idsA_ref (l := l) h
    | tup => exact idsA_ref (l := l) h
    | clo => exact idsA_ref (l := l) h
/-- The row of a result that is the function's own. -/
def ownId (b : Bool) (t : Ty) (v : AV E.toTys) : List Nat := match isOwn b t, v with
  | true, .c (.s (.ref id)) => [id]
  | _, _ => []
def ownIds : List (Bool × Ty) → List (AV E.toTys) → List Nat
  | (b, t) :: rs, v :: vs => ownId b t v ++ ownIds rs vs
  | _, _ => []
theorem ownIds_sub : ∀ {rs : List (Bool × Ty)} {l : List (AV E.toTys)}, ∀ i ∈ ownIds rs l, i ∈ idsA l
  | [], _, i, h => by simp [ownIds] at h
  | _ :: _, [], i, h => by simp [ownIds] at h
  | (b, t) :: rs, v :: l, i, h => by
    simp only [ownIds, List.mem_append] at h
    rcases h with h | h
    · unfold ownId at h
      split at h
      · rename_i id _
        simp at h
        subst h
        simp [idsA, cells, ids, cat]
      · cases h
    · have := ownIds_sub i h
      cases v <;> simp only [idsA, cat_eq, List.mem_append] <;> first | exact this | exact .inr this
/-- Blocks of the function's own results. -/
def OB (φ : Nat → Option Hd) (mem : List (Blk E.toTys)) (l : List Nat) (b : Nat) : Prop := ∃ i ∈ l, ∃ m h, mem[i]? = some m ∧ live m ∧ φ i = some h ∧ h.blk = some b
theorem expA_ok (S : Sim X w0 A φ st a w) {rd : Nat → Blk E.toTys} (hrd : ∀ id, rd id = nth .gone st.mem id ∨ rd id = .gone) {ok : Nat → Prop} (hok : ∀ b, okb A φ st.mem w b → ok b) {t : Ty} {v : AV E.toTys} {x : den E.toTys t} {u : Value}
    (hown : (∀ b, own φ st.mem b → ok b) ∨ ((∀ id off, SV.ptr id off ∉ refsA [v]) ∧ ∀ (id : Nat) m h b, .ref id ∈ refsA [v] → st.mem[id]? = some m → live m → φ id = some h → h.blk = some b → ok b)) (h : expF rd t v = some x) (hu : RA X φ w (okb A φ st.mem w) v u) :
    ∃ cs, Rep X w ok t x cs ∧ u = vOf t cs := by
  have hn : noClo [v] = true := by cases v <;> first | rfl | cases h
  have h : expA rd t v = some x := by cases v <;> first | exact h | cases h
  exact arg1_ok S hrd hok (hown.imp (fun h id hd b l e1 e2 => h b ⟨id, _, hd, rd_live hrd l, l, e1, e2⟩) fun h => ⟨h, hn⟩) h hu
theorem idsA_cons {v : AV E.toTys} {l : List (AV E.toTys)} : idsA (v :: l) = idsA [v] ++ idsA l := by cases v <;> simp [idsA, cat_eq]
theorem refsA_cons {v : AV E.toTys} {l : List (AV E.toTys)} : refsA (v :: l) = refsA [v] ++ refsA l := by cases v <;> simp [refsA, cat_eq]
theorem fin1_plain {rd : Nat → Blk E.toTys} {b : Bool} {t : Ty} {v : AV E.toTys} (h : isOwn b t = false) : fin1 rd b t v = expF rd t v := by
  cases b <;> cases t <;> first | rfl | cases h
theorem finR_ok (S : Sim X w0 A φ st a w) {all : List Nat} {okr : Nat → Prop} (hokr : ∀ b, b < w.heap.size → A b → ¬ OB φ st.mem all b → okr b) :
    ∀ {rs : List (Bool × Ty)} {l : List (AV E.toTys)} {x : RT E.toTys rs} {us : List Value}, (all = [] ∨ ∀ id off, SV.ptr id off ∉ refsA l) → distN (idsA l) = true → (∀ i ∈ all, i ∈ idsA l → i ∈ ownIds rs l) →
      finR (fun id => nth .gone st.mem id) rs l = some x → All2 (RA X φ w (okb A φ st.mem w)) l us → ∃ os, ResL X w okr rs x us os ∧ ∀ b, some b ∈ os → OB φ st.mem (ownIds rs l) b := by
  have hok : ∀ b, okb A φ st.mem w b → okr b := fun b hb => hokr b hb.1 hb.2.1 fun ⟨i, _, m, h, h1, h2, h3, h4⟩ => hb.2.2 ⟨i, m, h, h1, h2, h3, h4⟩
  have one : ∀ {b : Bool} {t : Ty} {rs : List (Bool × Ty)} {v : AV E.toTys} {l : List (AV E.toTys)} {x : den E.toTys t} {u : Value}, (all = [] ∨ ∀ id off, SV.ptr id off ∉ refsA (v :: l)) → distN (idsA (v :: l)) = true → (∀ i ∈ all, i ∈ idsA (v :: l) → i ∈ ownIds ((b, t) :: rs) (v :: l)) →
      fin1 (fun id => nth .gone st.mem id) b t v = some x → RA X φ w (okb A φ st.mem w) v u → ∃ o', Res1 X w okr b t x u o' ∧ ∀ b', o' = some b' → OB φ st.mem (ownId b t v) b' := by
    intro b t rs v l x u hptr hd hall hx hu
    cases hio : isOwn b t with
    | false =>
      rw [fin1_plain hio] at hx
      have := expA_ok (ok := okr) S (fun _ => .inl rfl) hok (by
        rcases hptr with rfl | hptr
        · exact .inl fun b hb => hokr b (S.blk_lt hb) (S.al b (S.new b hb)) fun ⟨i, hi, _⟩ => by cases hi
        · refine .inr ⟨fun id off hm => hptr id off (by rw [refsA_cons]; exact List.mem_append_left _ hm), fun id m h b' hm h1 h2 h3 h4 => hokr b' (S.blk_lt ⟨id, m, h, h1, h2, h3, h4⟩) (S.al b' (S.new b' ⟨id, m, h, h1, h2, h3, h4⟩)) ?_⟩
          rintro ⟨i, hi, m', h', g1, g2, g3, g4⟩
          have := S.sep i id m' m h' h b' g1 h1 g2 h2 g3 h3 g4 h4
          subst this
          have hin := idsA_ref hm
          have h9 := hall i hi (by rw [idsA_cons]; exact List.mem_append_left _ hin)
          have h10 : ownId b t v = [] := by unfold ownId; rw [hio]
          simp only [ownIds, h10, List.nil_append] at h9
          rw [idsA_cons] at hd
          exact (distN_split hd).2 i hin (ownIds_sub i h9)) hx hu
      refine ⟨none, ?_, fun b' h => by cases h⟩
      cases b <;> cases t <;> first | exact ⟨rfl, this⟩ | cases hio
    | true =>
      cases b <;> cases t <;> first | (cases hio; done) | skip
      rename_i u'
      have hxo : finO (fun id => nth .gone st.mem id) u' v = some x := hx
      clear hx hall hd hptr
      unfold finO at hxo
      split at hxo
      · cases hxo
        obtain ⟨ad, rfl⟩ := hu (by intro h; cases h)
        exact ⟨none, ⟨ad, 0, rfl, Nat.le_refl _, .inl ⟨rfl, rfl⟩⟩, fun b' h => by cases h⟩
      · rename_i idd
        split at hxo
        · rename_i u2 xs hm
          obtain ⟨e, he⟩ := conv_some hxo
          cases e
          have he : xs = x := he
          subst he
          obtain ⟨hd', ad, n, c, h1, rfl, h3⟩ := hu (by intro h; cases h)
          have hm' := rd_some (rd := fun id => nth .gone st.mem id) (fun _ => .inl rfl) hm trivial
          obtain ⟨ad', cap, bl, q1, q2, q3⟩ := S.mm idd _ hm'
          rw [h1] at q1; cases q1
          refine ⟨bl, ⟨ad', cap, rfl, q2, q3.imp (fun h => h) fun ⟨b, c, e, L, g1, g2, g3, g4, g5, g6⟩ => ⟨b, c, e, L, g1, g2, g3, g4, g5.mono fun b hb => ⟨hok b hb, rfl⟩, g6⟩⟩, fun b' hb => ⟨idd, by simp [ownId, isOwn], _, _, hm', trivial, h1, hb⟩⟩
        · cases hxo
      · cases hxo
  have ob : ∀ {p q : List Nat} {b : Nat}, (∀ i ∈ p, i ∈ q) → OB φ st.mem p b → OB φ st.mem q b := fun hs ⟨i, h1, h2⟩ => ⟨i, hs i h1, h2⟩
  intro rs
  induction rs with
  | nil =>
    intro l x us hptr hd hall h hu
    cases l with
    | nil => cases hu; exact ⟨[], ⟨rfl, rfl⟩, fun b hb => by simp at hb⟩
    | cons => simp [finR] at h
  | cons q rs ih =>
    intro l x us hptr hd hall h hu
    obtain ⟨b, t⟩ := q
    cases hu with
    | nil => cases rs <;> simp [finR] at h
    | cons h1 h2 =>
      rename_i v u l us
      cases rs with
      | nil =>
        cases h2 with
        | nil =>
          obtain ⟨o', k1, k2⟩ := one hptr hd hall h h1
          exact ⟨[o'], ⟨_, _, rfl, rfl, k1⟩, fun b' hb => by
            simp only [List.mem_singleton] at hb
            exact ob (fun i hi => by simp [ownIds, hi]) (k2 b' hb.symm)⟩
        | cons => simp [finR] at h
      | cons q' rs =>
        simp only [finR] at h
        split at h
        · rename_i y z hy hz
          cases h
          obtain ⟨o', k1, k2⟩ := one hptr hd hall hy h1
          rw [idsA_cons] at hd
          obtain ⟨d1, d2⟩ := distN_split hd
          obtain ⟨os, k3, k4⟩ := ih (l := l) (hptr.imp (fun h => h) fun hp id off hm => hp id off (by rw [refsA_cons]; exact List.mem_append_right _ hm)) d1 (fun i hi hin => by
            have := hall i hi (by rw [idsA_cons]; exact List.mem_append_right _ hin)
            simp only [ownIds, List.mem_append] at this ⊢
            rcases this with h5 | h5
            · exfalso
              refine d2 i ?_ hin
              unfold ownId at h5
              split at h5
              · simp at h5; subst h5; simp [idsA, cells, ids, cat]
              · cases h5
            · simpa [ownIds] using h5) hz h2
          refine ⟨o' :: os, ⟨_, _, _, _, rfl, rfl, k1, k3⟩, fun b' hb => ?_⟩
          rcases List.mem_cons.1 hb with hb | hb
          · exact ob (fun i hi => by simp [ownIds, hi]) (k2 b' hb.symm)
          · exact ob (fun i hi => by rw [ownIds]; exact List.mem_append_right _ hi) (k4 b' hb)
        · cases h
theorem Res1.mono {w : World} {ok ok' : Nat → Prop} (hk : ∀ b, ok b → ok' b) {b : Bool} {t : Ty} {x : den E.toTys t} {v : Value} {o : Option Nat} (h : Res1 X w ok b t x v o) : Res1 X w ok' b t x v o := by
  cases hio : isOwn b t with
  | false =>
    cases b <;> cases t <;> first | (obtain ⟨h1, cs, h2, h3⟩ := h; exact ⟨h1, cs, h2.mono fun b hb => ⟨hk b hb, rfl⟩, h3⟩) | cases hio
  | true =>
    cases b <;> cases t <;> first | (cases hio; done) | skip
    obtain ⟨ad, cap, h1, h2, h3⟩ := h
    exact ⟨ad, cap, h1, h2, h3.imp (fun h => h) fun ⟨b, c, e, L, g1, g2, g3, g4, g5, g6⟩ => ⟨b, c, e, L, g1, g2, g3, g4, g5.mono fun b hb => ⟨hk b hb, rfl⟩, g6⟩⟩
theorem ResL.mono {w : World} {ok ok' : Nat → Prop} (hk : ∀ b, ok b → ok' b) : ∀ {rs : List (Bool × Ty)} {x : RT E.toTys rs} {us : List Value} {os : List (Option Nat)}, ResL X w ok rs x us os → ResL X w ok' rs x us os
  | [], _, _, _, h => h
  | [(b, t)], x, us, os, h => by
    obtain ⟨v, o, e1, e2, h⟩ := h
    exact ⟨v, o, e1, e2, h.mono hk⟩
  | (b, t) :: q :: rs, x, us, os, h => by
    obtain ⟨v, o, us', os', e1, e2, h, k⟩ := h
    exact ⟨v, o, us', os', e1, e2, h.mono hk, k.mono hk⟩
theorem noown {rs : List (Bool × Ty)} : ∀ {l : List (AV E.toTys)}, owns rs = 0 → ownIds rs l = [] := by
  induction rs with
  | nil => intro l _; simp [ownIds]
  | cons q rs ih =>
    intro l h
    obtain ⟨b, t⟩ := q
    cases l with
    | nil => simp [ownIds]
    | cons v l =>
      cases hio : isOwn b t with
      | false =>
        have : owns ((b, t) :: rs) = owns rs := by cases b <;> cases t <;> first | rfl | cases hio
        rw [this] at h
        simp only [ownIds, ih h, List.append_nil]
        unfold ownId; rw [hio]
      | true => cases b <;> cases t <;> first | (cases hio; done) | (simp [owns] at h)
/-- What a function ends with. -/
theorem fin_core (T : Tie X P C) (S : Sim X w0 A φ st a w) {fn : Func} {res : List ResultVar} (hres : fn.results.toList = res) {rs : List (Bool × Ty)} {x : RT E.toTys rs} (h : fin C res rs st = some x) :
    ∃ us os, (results fn a.tmps).run P w = .ok (retV us) w ∧ ResL X w (fun b => b < w.heap.size ∧ A b ∧ some b ∉ os) rs x us os ∧ ∀ b, some b ∈ os → own φ st.mem b := by
  unfold fin at h
  split at h
  · rename_i l hl
    obtain ⟨us, h1, h2⟩ := resv_ok T S hl
    have go : distN (idsA l) = true → (owns rs = 0 ∨ noPtr (refsA l) = true) → finR (fun id => nth .gone st.mem id) rs l = some x → ∃ os, ResL X w (fun b => b < w.heap.size ∧ A b ∧ some b ∉ os) rs x us os ∧ ∀ b, some b ∈ os → own φ st.mem b := by
      intro hd hp hf
      obtain ⟨os, k1, k2⟩ := finR_ok S (all := ownIds rs l) (okr := fun b => b < w.heap.size ∧ A b ∧ ¬ OB φ st.mem (ownIds rs l) b) (fun b h1 h2 h3 => ⟨h1, h2, h3⟩) (hp.imp noown noPtr_mem) hd (fun i hi _ => hi) hf h2
      refine ⟨os, k1.mono fun b hb => ⟨hb.1, hb.2.1, fun hm => hb.2.2 (k2 b hm)⟩, fun b hb => ?_⟩
      obtain ⟨i, _, m, h, g1, g2, g3, g4⟩ := k2 b hb
      exact ⟨i, m, h, g1, g2, g3, g4⟩
    split at h
    · rename_i hd ho
      obtain ⟨os, g1, g2⟩ := go hd (.inl ho) h
      exact ⟨us, os, results_ok hres h1, g1, g2⟩
    · rename_i hd hn _
      obtain ⟨os, g1, g2⟩ := go hd (.inr hn) h
      exact ⟨us, os, results_ok hres h1, g1, g2⟩
    · cases h
  · cases h
theorem fin_ok (T : Tie X P C) {okA : Nat → Prop} {w1 : World} (S : Sim X ⟨w1, none, []⟩ (fun b => okA b ∨ w1.heap.size ≤ b) φ st a w) {fn : Func} {res : List ResultVar} (hres : fn.results.toList = res) {rs : List (Bool × Ty)} {x : RT E.toTys rs} (h : fin C res rs st = some x) :
    ∃ v, (results fn a.tmps).run P w = .ok v w ∧ RetOK X w1 okA rs x (.returned v) w := by
  obtain ⟨us, os, h1, h2, h3⟩ := fin_core T S hres h
  refine ⟨_, h1, us, os, rfl, S.bel.to (fun i hv => by rcases hv with ⟨v, hv⟩ | hv <;> cases hv), h2.mono fun b hb => hb, fun b hb => ?_⟩
  rcases S.new b (h3 b hb) with g | ⟨v, g⟩ | g
  · exact ⟨g, S.blk_lt (h3 b hb)⟩
  · cases g
  · cases g
theorem finIO_ok (T : Tie X P C) {w1 : World} {v : Value} {o : Option Nat} (S : Sim X ⟨w1, some (v, o), []⟩ A φ st a w) {fn : Func} {res : List ResultVar} (hres : fn.results.toList = res) {t : Ty} {rs : List (Bool × Ty)} {x : RT E.toTys ((true, t) :: rs)} (h : finIO C res t rs st = some x) :
    ∃ v', (results fn a.tmps).run P w = .ok v' w ∧ RetIO X w1 v o ((true, t) :: rs) x (.returned v') w := by
  unfold finIO at h
  split at h
  · rename_i hfl
    simp only [Bool.and_eq_true] at hfl
    obtain ⟨hfl, hfr, how⟩ := hfl
    split at h
    · rename_i y z hy hz
      cases h
      obtain ⟨us, os, h1, h2, h3⟩ := fin_core T S hres hz
      have e1 : rtHd (rtMk (a := (true, t)) y z) = y := by cases rs <;> rfl
      have e2 : rtTl (rtMk (a := (true, t)) y z) = z := by cases rs <;> rfl
      refine ⟨_, h1, us, os, rfl, ?_, ?_, ?_⟩
      · have := S.bel
        exact ⟨this.os, this.tape, this.output, this.size, fun k hk hI => this.block k hk fun hv => by rcases hv with ⟨v', hv⟩ | hv <;> first | exact hI (by cases hv; rfl) | cases hv⟩
      · rw [e1]
        obtain ⟨hd, g1, g2, g3⟩ := S.io _ rfl
        have g2 : hd.hdr = v := g2
        have g3 : hd.blk = o := g3
        unfold ioRd at hy
        split at hy
        · split at hy
          · rename_i u u' xs hm
            obtain ⟨e, he⟩ := conv_some hy
            cases e
            have he : xs = y := he
            subst he
            have hm' := rd_some (rd := fun id => nth .gone st.mem id) (fun _ => .inl rfl) hm trivial
            obtain ⟨ad, cap, bl, q1, q2, q3⟩ := S.mm 0 _ hm'
            rw [g1] at q1; cases q1
            exact ⟨ad, cap, g2.symm, q2, by
              have g3 : bl = o := g3
              rw [← g3]
              exact q3.imp (fun h => h) fun ⟨b, c', e, L, j1, j2, j3, j4, j5, j6⟩ => ⟨b, c', e, L, j1, j2, j3, j4, flat_lay hfl j5, j6⟩⟩
          · cases hy
        · split at hy
          · rename_i u cs hm
            split at hy
            · rename_i y' hc
              cases hy
              have hm' := rd_some (rd := fun id => nth .gone st.mem id) (fun _ => .inl rfl) hm trivial
              obtain ⟨b, c, e, q1, q2, q3⟩ := S.mm 0 _ hm'
              rw [g1] at q1; cases q1
              exact ⟨y', b, c, e, rfl, g2.symm, g3.symm, q2, expC0_ok (ok' := fun _ => True) S.mm (fun _ => .inl rfl) (fun _ _ => trivial) (fun _ _ _ _ _ _ => trivial) hc q3⟩
            · cases hy
          · cases hy
        · cases hy
      · rw [e2]
        exact h2.mono fun _ _ => trivial
    · cases h
  · cases h
theorem finUse_ok (T : Tie X P C) {w1 : World} {v : Value} {o : Option Nat} (S : Sim X ⟨w1, some (v, o), []⟩ A φ st a w) {fn : Func} {res : List ResultVar} (hres : fn.results.toList = res) {rs : List (Bool × Ty)} {x : RT E.toTys rs} (h : fin C res rs st = some x) :
    ∃ v', (results fn a.tmps).run P w = .ok v' w ∧ RetUse X w1 o rs x (.returned v') w := by
  obtain ⟨us, os, h1, h2, h3⟩ := fin_core T S hres h
  refine ⟨_, h1, us, os, rfl, ?_, h2.mono fun _ _ => trivial, fun b hb => ?_⟩
  · have := S.bel
    exact ⟨this.os, this.tape, this.output, this.size, fun k hk hI => this.block k hk fun hv => by rcases hv with ⟨v', hv⟩ | hv <;> first | exact hI (by cases hv; rfl) | cases hv⟩
  · refine ⟨?_, S.blk_lt (h3 b hb)⟩
    rcases S.new b (h3 b hb) with g | ⟨v, g⟩ | g
    · exact .inl g
    · cases g; exact .inr rfl
    · cases g
def expClo (rd : Nat → Blk E.toTys) : (us : List Ty) → List (CV E.toTys) → Option (HL E.toTys us)
  | [], [] => some ()
  | t :: ts, .s v :: vs => match expS1 rd (.ptr t) v, expClo rd ts vs with
    | some (some y), some z => some (y, z)
    | _, _ => none
  | _, _ => none
/-- The end of a function that answers a function. -/
def finC (C : Ctx E) (res : List ResultVar) (n : Nat) (u : Ty) (us : List Ty) (st : St E.toTys) : Option (den E.toTys u × HL E.toTys us) := match resv C st res with
  | some [.clo f (.s (.ptr i 0) :: cs)] => match Nat.beq f n, nth .gone st.mem i with
    | true, .var vs => match expC0 (hide i fun id => nth .gone st.mem id) u vs, expClo (hide i fun id => nth .gone st.mem id) us cs with
      | some x, some y => some (x, y)
      | _, _ => none
    | _, _ => none
  | _ => none
theorem expClo_ok (S : Sim X w0 A φ st a w) {rd : Nat → Blk E.toTys} (hrd : ∀ id, rd id = nth .gone st.mem id ∨ rd id = .gone) {ok : Nat → Prop} (hok : ∀ b, okb A φ st.mem w b → ok b) (hown : ∀ (id : Nat) h b, live (rd id) → φ id = some h → h.blk = some b → ok b) :
    ∀ {us : List Ty} {cs : List (CV E.toTys)} {y : HL E.toTys us} {vs : List Value}, expClo rd us cs = some y → All2 (RC X φ w (okb A φ st.mem w)) cs vs → ClosRep X w ok us y vs
  | [], [], y, vs, h, k => by cases k; rfl
  | [], _ :: _, y, vs, h, k => by cases h
  | _ :: _, [], y, vs, h, k => by cases h
  | t :: ts, .agg _ :: _, y, vs, h, k => by cases h
  | t :: ts, .s v :: cs, y, vs, h, k => by
    cases k with
    | cons k1 k2 =>
      rename_i u us
      simp only [expClo] at h
      split at h
      · rename_i y1 y2 h1 h2
        cases h
        have hs := k1 (by rintro rfl; exact expS1_dead h1)
        have hr := expS1_ok S hrd hok (.inl hown) h1 hs
        refine ⟨u, us, rfl, ?_, hr, expClo_ok S hrd hok hown h2 k2⟩
        obtain ⟨b, o, es, e, _⟩ := Rep.ptr.1 hr
        have e : u = .pointer (some ⟨b, o, none⟩) := by simpa using e
        rw [e]; rfl
      · cases h
theorem finC_ok (T : Tie X P C) {w1 : World} (S : Sim X ⟨w1, none, []⟩ (fun b => False ∨ w1.heap.size ≤ b) φ st a w) {fn : Func} {res : List ResultVar} (hres : fn.results.toList = res) {g : CloSig E.toTys} {r : den E.toTys g.u × HL E.toTys g.us} (h : finC C res g.n g.u g.us st = some r) :
    ∃ v, (results fn a.tmps).run P w = .ok v w ∧ RetClo X w1 g r (.returned v) w := by
  unfold finC at h
  split at h
  · rename_i f i cs hl
    obtain ⟨us', h1, h2⟩ := resv_ok T S hl
    cases h2 with
    | cons k1 k2 =>
    cases k2
    obtain ⟨vs', rfl, kv⟩ := k1
    cases kv with
    | cons kv1 kv2 =>
    obtain ⟨hd, b, q1, q2, rfl⟩ := kv1 (by intro h; cases h)
    split at h
    · rename_i vs hfn hm
      split at h
      · rename_i x y hx hy
        cases h
        have hm' := rd_some (rd := fun id => nth .gone st.mem id) (fun _ => .inl rfl) hm trivial
        obtain ⟨b', c, e0, g1, g2, g3⟩ := S.mm i _ hm'
        rw [q1] at g1; cases g1
        cases q2
        have hob : own φ st.mem b := ⟨i, _, _, hm', trivial, q1, rfl⟩
        have hrd := hide_ok (id := i) (rd := fun id => nth .gone st.mem id) (mem := st.mem) (fun _ => .inl rfl)
        have hok : ∀ b', okb (fun b => False ∨ w1.heap.size ≤ b) φ st.mem w b' → b' < w.heap.size ∧ w1.heap.size ≤ b' ∧ b' ≠ b := fun b' hb => ⟨hb.1, hb.2.1.elim (fun h => h.elim) id, fun e => hb.2.2 (e ▸ hob)⟩
        have hown : ∀ (id : Nat) h b', live (hide i (fun id => nth .gone st.mem id) id) → φ id = some h → h.blk = some b' → b' < w.heap.size ∧ w1.heap.size ≤ b' ∧ b' ≠ b := by
          intro id h b' hl e1 e2
          have hlm := rd_live hrd hl
          have ho : own φ st.mem b' := ⟨id, _, h, hlm, hl, e1, e2⟩
          refine ⟨S.blk_lt ho, ?_, ?_⟩
          · rcases S.new b' ho with g | ⟨v, g⟩ | g
            · exact g
            · cases g
            · cases g
          · rintro rfl
            exact hide_ne hl (S.sep id i _ _ _ _ b' hlm hm' hl trivial e1 q1 e2 rfl)
        obtain rfl : f = g.n := Nat.eq_of_beq_eq_true hfn
        refine ⟨_, results_ok hres h1, b, c, e0, _, rfl, S.bel.to (fun i hv => by rcases hv with ⟨v, hv⟩ | hv <;> cases hv), ?_, S.blk_lt hob, g2, ?_, expClo_ok S hrd hok hown hy kv2⟩
        · rcases S.new b hob with g | ⟨v, g⟩ | g
          · exact g
          · cases g
          · cases g
        · exact expC0_ok S.mm hrd hok (fun id hid h b' e1 e2 => hown id h b' (expC_live hx hid) e1 e2) hx g3
      · cases h
    · cases h
  · cases h
theorem ini_len : ∀ {ts : List Ty} {x : HL E.toTys ts}, (ini E ts x).length = ts.length
  | [], _ => rfl
  | t :: ts, x => by simp [ini, ini_len (x := x.2)]
theorem ini_ok : ∀ {ts : List Ty} {x : HL E.toTys ts} {vs : List Value} {ok : Nat → Prop} {φ : Nat → Option Hd}, ArgsRep X w ok ts x vs → All2 (RA X φ w ok) (ini E ts x) vs
  | [], x, vs, ok, φ, h => by cases h; exact .nil
  | t :: ts, x, vs, ok, φ, h => by
    obtain ⟨v, r, cs, rfl, h1, rfl, h2⟩ := h
    exact .cons (oneA_rep h1) (ini_ok h2)
theorem iniIO_len : ∀ {p : Nat} {ts : List Ty} {x : HL E.toTys ts}, (iniIO E p ts x).length = ts.length
  | p, [], _ => by cases p <;> rfl
  | 0, t :: ts, x => by simp [iniIO, ini_len (x := x.2)]
  | p + 1, t :: ts, x => by simp [iniIO, iniIO_len (p := p) (x := x.2)]
/-- What an argument that is written is in the call's memory. -/
theorem io_rm {ok : Nat → Prop} {t : Ty} {y : den E.toTys t} {v : Value} {o : Option Nat} {b : Blk E.toTys} (hb : ioBlk t y = some b) (h : IoV X w ok t y v o) : ∃ k : Hd, k.hdr = v ∧ k.blk = o ∧ live b ∧ ∀ φ : Nat → Option Hd, φ 0 = some k → RM X φ w ok 0 b ∧ RA X φ w ok (ioRef E.toTys t) v := by
  cases t <;> first | exact h.elim | skip
  · rename_i u
    cases hb
    obtain ⟨ad, cap, rfl, h2, h3⟩ := h
    exact ⟨⟨_, o, _⟩, rfl, rfl, trivial, fun φ hφ => ⟨⟨ad, cap, o, hφ, h2, h3⟩, fun _ => ⟨_, ad, _, cap, hφ, rfl, rfl⟩⟩⟩
  · rename_i u
    obtain ⟨y', b', c, e, rfl, rfl, rfl, h4, h5⟩ := h
    unfold ioBlk at hb
    simp only at hb
    split at hb
    · cases hb
    · rename_i hna
      cases hb
      exact ⟨⟨_, some b', 0⟩, rfl, rfl, trivial, fun φ hφ => ⟨⟨b', c, e, hφ, h4, flat_rep (by rintro n t rfl; cases hna) h5⟩, fun _ => ⟨_, b', hφ, rfl, rfl⟩⟩⟩
theorem argsIO_at {okA : Nat → Prop} {v : Value} {o : Option Nat} {t : Ty} : ∀ {p : Nat} {ts : List Ty} {x : HL E.toTys ts} {vs : List Value} {y : den E.toTys t}, ArgsIO X w okA v o p ts x vs → argAt t p ts x = some y → IoV X w okA t y v o ∧ ∀ (φ : Nat → Option Hd) (ok : Nat → Prop), (∀ b, okA b → ok b) → RA X φ w ok (ioRef E.toTys t) v → All2 (RA X φ w ok) (iniIO E p ts x) vs
  | p, [], x, vs, y, h, k => by cases p <;> exact h.elim
  | 0, t' :: ts, x, vs, y, h, k => by
    obtain ⟨r, rfl, h1, h2⟩ := h
    obtain ⟨e, he⟩ := conv_some (show conv t' t x.1 = some y from k)
    subst e
    have he : x.1 = y := he
    subst he
    exact ⟨h1, fun φ ok hk hr => .cons hr ((ini_ok (φ := φ) h2).mono fun _ _ h => h.mono (fun _ _ h => h) fun b hb => ⟨hk b hb, rfl⟩)⟩
  | p + 1, t' :: ts, x, vs, y, h, k => by
    obtain ⟨v', r, cs, rfl, h1, rfl, h2⟩ := h
    obtain ⟨g1, g2⟩ := argsIO_at h2 k
    exact ⟨g1, fun φ ok hk hr => .cons (oneA_rep (h1.mono fun b hb => ⟨hk b hb, rfl⟩)) (g2 φ ok hk hr)⟩
end
/-- A place where a function's run rests. -/
structure Cut (E : Env) (R : Type) where
  l : Bool
  id : Nat
  p : Pat
  F : Nat → Pay E.toTys p → Option R
section
variable {E : Env} {R : Type}
def isCut (l : Bool) : List (Cut E R) → Nat → Bool
  | [], _ => false
  | c :: r, id => match l, c.l with
    | true, true => Nat.beq c.id id || isCut l r id
    | false, false => Nat.beq c.id id || isCut l r id
    | _, _ => isCut l r id
def goCut (l : Bool) (k : Nat) : List (Cut E R) → Nat → St E.toTys → Option R
  | [], _, _ => none
  | c :: r, id, st => match l, c.l with
    | true, true => match Nat.beq c.id id with
      | true => (matchP c.p st).bind (c.F k)
      | false => goCut l k r id st
    | false, false => match Nat.beq c.id id with
      | true => (matchP c.p st).bind (c.F k)
      | false => goCut l k r id st
    | _, _ => goCut l k r id st
def stops (fin : St E.toTys → Option R) (cuts : List (Cut E R)) (k : Nat) : Stops E R :=
  ⟨isCut false cuts, isCut true cuts, goCut false k cuts, goCut true k cuts, fin⟩
def findL (l : Bool) (id : Nat) : List (Bool × Nat × List Item) → List (List Item)
  | [] => []
  | (b, i, T) :: r => match l, b, Nat.beq i id with
    | true, true, true => T :: findL l id r
    | false, false, true => T :: findL l id r
    | _, _, _ => findL l id r
/-- The one place with this number. -/
def place (body : Code) (l : Bool) (id : Nat) : Option (List Item) := match findL l id (locT [.code body]) with
  | [T] => some T
  | _ => none
theorem findL_mem {l : Bool} {id : Nat} {T : List Item} : ∀ {L : List (Bool × Nat × List Item)}, (l, id, T) ∈ L → T ∈ findL l id L
  | [], h => by cases h
  | (b, i, T') :: L, h => by
    rcases List.mem_cons.1 h with h | h
    · cases h
      cases l <;> simp [findL]
    · have := findL_mem h
      unfold findL
      split <;> first | exact List.mem_cons_of_mem _ this | exact this
theorem place_uniq {body : Code} {l : Bool} {id : Nat} {T T' : List Item} (h : place body l id = some T) (h' : (l, id, T') ∈ locT [.code body]) : T' = T := by
  unfold place at h
  split at h
  · rename_i T2 he
    cases h
    have := findL_mem h'
    rw [he] at this
    simpa using this
  · cases h
theorem findL_in {l : Bool} {id : Nat} {T : List Item} : ∀ {L : List (Bool × Nat × List Item)}, T ∈ findL l id L → (l, id, T) ∈ L
  | [], h => by cases h
  | (b, i, T') :: L, h => by
    unfold findL at h
    split at h
    · rename_i hb
      have hb := Nat.eq_of_beq_eq_true hb
      subst hb
      rcases List.mem_cons.1 h with rfl | h
      · simp
      · exact List.mem_cons_of_mem _ (findL_in h)
    · rename_i hb
      have hb := Nat.eq_of_beq_eq_true hb
      subst hb
      rcases List.mem_cons.1 h with rfl | h
      · simp
      · exact List.mem_cons_of_mem _ (findL_in h)
    · exact List.mem_cons_of_mem _ (findL_in h)
theorem place_in {body : Code} {l : Bool} {id : Nat} {T : List Item} (h : place body l id = some T) : (l, id, T) ∈ locT [.code body] := by
  unfold place at h
  split at h
  · rename_i T2 he
    cases h
    exact findL_in (by rw [he]; simp)
  · cases h
/-- The function's text fits at a place. -/
def CutOK (C : Nat → Ctx E) (body : Code) (fin : Ctx E → St E.toTys → Option R) (io : Bool) (N : Nat) (cuts : List (Cut E R)) (c : Cut E R) : Prop :=
  (place body c.l c.id).isSome = true ∧ ioP c.p = io ∧ (∀ x, c.F 0 x = none) ∧ ∀ k x, start (C k) (stops (fin (C k)) cuts k) N ((place body c.l c.id).getD []) (B.build c.p x) = c.F (k + 1) x
theorem goCut_some {l : Bool} {k id : Nat} {st : St E.toTys} {r : R} : ∀ {cuts : List (Cut E R)}, goCut l k cuts id st = some r → ∃ c ∈ cuts, c.l = l ∧ c.id = id ∧ ∃ x, matchP c.p st = some x ∧ c.F k x = some r
  | [], h => by cases h
  | c :: cuts, h => by
    have here : c.l = l → Nat.beq c.id id = true → (matchP c.p st).bind (c.F k) = some r → ∃ c' ∈ c :: cuts, c'.l = l ∧ c'.id = id ∧ ∃ x, matchP c'.p st = some x ∧ c'.F k x = some r := by
      intro h1 h2 h3
      cases hm : matchP c.p st with
      | none => rw [hm] at h3; cases h3
      | some x => rw [hm] at h3; exact ⟨c, by simp, h1, Nat.eq_of_beq_eq_true h2, x, hm, h3⟩
    have next : goCut l k cuts id st = some r → ∃ c' ∈ c :: cuts, c'.l = l ∧ c'.id = id ∧ ∃ x, matchP c'.p st = some x ∧ c'.F k x = some r := fun h => by
      obtain ⟨c', h1, h2⟩ := goCut_some h
      exact ⟨c', by simp [h1], h2⟩
    unfold goCut at h
    split at h
    · rename_i hl
      split at h
      · exact here hl (by assumption) h
      · exact next h
    · rename_i hl
      split at h
      · exact here hl (by assumption) h
      · exact next h
    · exact next h
end
section
variable {E : Env} {X : XRep E} {P : Program}
theorem fn_core {R : Type} {C : Nat → Ctx E} (T : ∀ k, Tie X P (C k)) (k : Nat) (CK : ∀ j, j ≤ k → CtxOK X P (C j)) {body : Code} {fin : Ctx E → St E.toTys → Option R} {io : Bool} {N : Nat} (cuts : List (Cut E R)) (hc : ∀ c ∈ cuts, CutOK C body fin io N cuts c)
    {r : R} {w0 : W0} {A : Nat → Prop} (hio : w0.io.isSome = io) {Post : Act → World → Prop} (hfin : ∀ j φ st a w', Sim X w0 A φ st a w' → fin (C j) st = some r → Post a w') {φ : Nat → Option Hd} {st : St E.toTys} {a : Act} {w : World} (S : Sim X w0 A φ st a w)
    (h : exec (C k) (stops (fin (C k)) cuts k) N [.code body] st = some r) : Ends P Post [.code body] a w := by
  have key : ∀ (j : Nat), j ≤ k → ∀ (c : Cut E R), c ∈ cuts → ∀ (y : Pay E.toTys c.p), c.F j y = some r → ∀ (Tk : List Item), (c.l, c.id, Tk) ∈ locT [.code body] → ∀ φ a w', Sim X w0 A φ (B.build c.p y) a w' → Ends P Post Tk a w' := by
    intro j
    induction j with
    | zero =>
      intro _ c hcm y hy
      rw [(hc c hcm).2.2.1 y] at hy
      cases hy
    | succ j ih =>
      intro hjk c hcm y hy Tk hT φ a w' S
      obtain ⟨h1, _, h2, h3⟩ := hc c hcm
      cases hp : place body c.l c.id with
      | none => rw [hp] at h1; cases h1
      | some T0 =>
        have := place_uniq hp hT
        subst this
        have h4 := h3 j y
        rw [hp] at h4
        simp only [Option.getD_some] at h4
        rw [hy] at h4
        have hcutL : ∀ (l : Bool) id T φ st a w', (l, id, T) ∈ locT [.code body] → Sim X w0 A φ st a w' → goCut l j cuts id st = some r → Ends P Post T a w' := by
          intro l id T φ st a w' hl S h
          obtain ⟨c', g1, rfl, rfl, x', g4, g5⟩ := goCut_some h
          obtain ⟨φ', S'⟩ := match_ok S (hio.trans (hc c' g1).2.1.symm) g4
          exact ih (by omega) c' g1 x' g5 T hl φ' a w' S'
        exact start_ok (T j) (CK j (by omega)) (G := stops (fin (C j)) cuts j) (L := locT [.code body]) (fun φ st a w' S h => hfin j φ st a w' S h)
          (fun id T φ st a w' hl S _ h => hcutL true id T φ st a w' hl S h) (fun id T φ st a w' hl S _ h => hcutL false id T φ st a w' hl S h) (locT_sub _ _ _ _ hT) S h4
  have hcut : ∀ (l : Bool) id T φ st a w', (l, id, T) ∈ locT [.code body] → Sim X w0 A φ st a w' → goCut l k cuts id st = some r → Ends P Post T a w' := by
    intro l id T φ st a w' hl S h
    obtain ⟨c', g1, rfl, rfl, x', g4, g5⟩ := goCut_some h
    obtain ⟨φ', S'⟩ := match_ok S (hio.trans (hc c' g1).2.1.symm) g4
    exact key k (Nat.le_refl _) c' g1 x' g5 T hl φ' a w' S'
  exact exec_ok (T k) (CK k (Nat.le_refl _)) (G := stops (fin (C k)) cuts k) (L := locT [.code body]) (F := Post) (fun φ st a w' S h => hfin k φ st a w' S h)
    (fun id T φ st a w' hl S _ h => hcut true id T φ st a w' hl S h) (fun id T φ st a w' hl S _ h => hcut false id T φ st a w' hl S h) N [.code body] _ _ _ _ (fun x hx => hx) S h
theorem calls_of {f : FuncId} {fn : Func} {body : Code} {vs : List Value} {w : World} (hf : P.funcs[f]? = some fn) (hb : fn.body = some body) {Q : Ending → World → Prop}
    (hE : Ends P (fun a w' => a.defers = [] ∧ ∃ v, (results fn a.tmps).run P w' = .ok v w' ∧ Q (.returned v) w') [.code body] { tmps := vs.toArray ++ Array.replicate (fn.ntmps - vs.toArray.size) undef, defers := [] } w) : Calls P f vs.toArray w Q := by
  intro cs
  obtain ⟨a', w', todo, h1, hd, v, h2, h3⟩ := hE { (default : Frame) with fn := f, kind := .normal } cs
  have henter : Frame.enter P f vs.toArray .normal = ({ (default : Frame) with fn := f, kind := .normal } : Frame).at { tmps := vs.toArray ++ Array.replicate (fn.ntmps - vs.toArray.size) undef, defers := [] } [.code body] := by
    simp [Frame.enter, Frame.at, hf, hb]
  rw [← henter] at h1
  exact ⟨.returned v, w', _, h3, h1, rfl, rfl, hd, rfl, fn, hf, h2⟩
theorem ini_sim {ps : List Ty} {x : HL E.toTys ps} {okA : Nat → Prop} {vs : List Value} {w : World} {m : Nat} (hA : ∀ b, okA b → b < w.heap.size) (hargs : ArgsRep X w okA ps x vs) :
    Sim X ⟨w, none, []⟩ (fun b => okA b ∨ w.heap.size ≤ b) (fun _ => none) ⟨cat (ini E ps x) (rep (m - len ps) (.c (.s .dead))), []⟩ { tmps := vs.toArray ++ Array.replicate (m - vs.toArray.size) undef, defers := [] } w := by
  have hini := ini_ok (X := X) (φ := fun _ => none) hargs
  have hlen : (ini E ps x).length = ps.length := ini_len
  have hvl : vs.length = ps.length := by rw [← hini.length]; exact hlen
  have hall : All2 (RA X (fun _ => none) w (okb (T := E.toTys) (fun b => okA b ∨ w.heap.size ≤ b) (fun _ => none) [] w)) (cat (ini E ps x) (rep (m - len ps) (.c (.s .dead)))) (vs.toArray ++ Array.replicate (m - vs.toArray.size) undef).toList := by
    rw [cat_eq, rep_eq, len_eq]
    simp only [Array.toList_append, Array.toList_replicate, List.size_toArray, hvl]
    refine (hini.mono fun _ _ h => RA.mono (fun _ _ h => h) (fun b hb => ⟨⟨hA b hb, .inl hb, fun ⟨j, m, k, h1, _⟩ => by simp at h1⟩, rfl⟩) h).app ?_
    refine All2.of_get (by simp) fun i v u hv hu => ?_
    have := List.eq_of_mem_replicate (List.mem_of_getElem? hv)
    subst this
    exact fun h => absurd rfl h
  refine ⟨?_, fun i v hv => ?_, fun j m hj => by simp at hj, fun _ _ => rfl, fun i j p q h k b hi => by simp at hi, fun b ⟨j, m, k, h1, _⟩ => by simp at h1, .refl _ _ _, rfl, fun b hb => .inr (hb.elim (fun h => h) fun hv => by rcases hv with ⟨v, hv⟩ | hv <;> cases hv), fun p hp => by cases hp⟩
  · rw [hall.length, Array.length_toList]
  · obtain ⟨u, h1, h2⟩ := hall.get hv
    exact ⟨u, by rwa [Array.getElem?_toList] at h1, h2⟩
/-- THE FUNCTION: what its text answers, a call returns. -/
theorem fn_ok {C : Nat → Ctx E} (T : ∀ k, Tie X P (C k)) (k : Nat) (CK : ∀ j, j ≤ k → CtxOK X P (C j)) {f : FuncId} {fn : Func} {body : Code} {ps : List Ty} {rs : List (Bool × Ty)} {res : List ResultVar} (N : Nat) (hf : P.funcs[f]? = some fn) (hb : fn.body = some body)
    (hres : fn.results.toList = res) (cuts : List (Cut E (RT E.toTys rs))) (hc : ∀ c ∈ cuts, CutOK C body (fun C => fin C res rs) false N cuts c) {F : HL E.toTys ps → Option (RT E.toTys rs)}
    (hF : ∀ x, exec (C k) (stops (fin (C k) res rs) cuts k) N [.code body] ⟨cat (ini E ps x) (rep (fn.ntmps - len ps) (.c (.s .dead))), []⟩ = F x) : SigOK X P f ⟨ps, rs, none, F⟩ := by
  intro x r hx w okA vs hA hargs
  exact calls_of hf hb (fn_core T k CK cuts hc rfl (fun j φ st a w' S h => ⟨S.df, fin_ok (T j) S hres h⟩) (ini_sim hA hargs) (by rw [hF x]; exact hx))
/-- .. that writes an argument. -/
theorem fn_okIO {C : Nat → Ctx E} (T : ∀ k, Tie X P (C k)) (k : Nat) (CK : ∀ j, j ≤ k → CtxOK X P (C j)) {f : FuncId} {fn : Func} {body : Code} {ps : List Ty} {t : Ty} {rs : List (Bool × Ty)} {res : List ResultVar} (N p : Nat) (hf : P.funcs[f]? = some fn) (hb : fn.body = some body)
    (hres : fn.results.toList = res) (cuts : List (Cut E (RT E.toTys ((true, t) :: rs)))) (hc : ∀ c ∈ cuts, CutOK C body (fun C => finIO C res t rs) true N cuts c) {F : HL E.toTys ps → Option (RT E.toTys ((true, t) :: rs))}
    (hF : ∀ x, (match iniM t p ps x with | some b => exec (C k) (stops (finIO (C k) res t rs) cuts k) N [.code body] ⟨cat (iniIO E p ps x) (rep (fn.ntmps - len ps) (.c (.s .dead))), [b]⟩ | none => none) = F x) (hp1000 : Nat.ble 1000 p = false := by rfl) : SigOK X P f ⟨ps, (true, t) :: rs, some p, F⟩ := by
  intro x r hx w okA vs hA v o ho
  rw [hp1000]
  intro hargs
  have hx : F x = some r := hx
  rw [← hF x] at hx
  split at hx
  · rename_i b hb0
    have hb1 : ∃ y, argAt t p ps x = some y ∧ ioBlk t y = some b := by
      unfold iniM at hb0
      split at hb0
      · rename_i y hy
        exact ⟨y, hy, hb0⟩
      · cases hb0
    obtain ⟨y, hy, hb1⟩ := hb1
    obtain ⟨hiov, hini⟩ := argsIO_at hargs hy
    obtain ⟨kk, e1, e2, hlv, hrm⟩ := io_rm hb1 hiov
    have hown : ∀ b', own (T := E.toTys) (setφ (fun _ => none) 0 kk) [b] b' → o = some b' := by
      rintro b' ⟨j, m, h, g1, g2, g3, g4⟩
      cases j with
      | zero => rw [setφ_same] at g3; cases g3; rw [← e2, g4]
      | succ j => simp at g1
    have hk : ∀ b', okA b' → okb (T := E.toTys) (fun b => okA b ∨ (w.heap.size ≤ b ∨ o = some b)) (setφ (fun _ => none) 0 kk) [b] w b' := fun b' hb' => ⟨hA b' hb', .inl hb', fun h => (ho b' (hown b' h)).2 hb'⟩
    obtain ⟨hrm1, hrm2⟩ := hrm (setφ (fun _ => none) 0 kk) (setφ_same _ _)
    have hini := hini (setφ (fun _ => none) 0 kk) _ hk (hrm2.mono (fun _ _ h => h) fun b' hb' => ⟨hk b' hb', rfl⟩)
    have hlen : (iniIO E p ps x).length = ps.length := iniIO_len
    have hvl : vs.length = ps.length := by rw [← hini.length]; exact hlen
    have S0 : Sim X ⟨w, some (v, o), []⟩ (fun b => okA b ∨ (w.heap.size ≤ b ∨ o = some b)) (setφ (fun _ => none) 0 kk) ⟨cat (iniIO E p ps x) (rep (fn.ntmps - len ps) (.c (.s .dead))), [b]⟩ { tmps := vs.toArray ++ Array.replicate (fn.ntmps - vs.toArray.size) undef, defers := [] } w := by
      have hall : All2 (RA X (setφ (fun _ => none) 0 kk) w (okb (T := E.toTys) (fun b => okA b ∨ (w.heap.size ≤ b ∨ o = some b)) (setφ (fun _ => none) 0 kk) [b] w)) (cat (iniIO E p ps x) (rep (fn.ntmps - len ps) (.c (.s .dead)))) (vs.toArray ++ Array.replicate (fn.ntmps - vs.toArray.size) undef).toList := by
        rw [cat_eq, rep_eq, len_eq]
        simp only [Array.toList_append, Array.toList_replicate, List.size_toArray, hvl]
        refine hini.app ?_
        refine All2.of_get (by simp) fun i v u hv hu => ?_
        have := List.eq_of_mem_replicate (List.mem_of_getElem? hv)
        subst this
        exact fun h => absurd rfl h
      refine ⟨?_, fun i v hv => ?_, fun j m hj => ?_, fun j hj => ?_, fun i j p q h k b hi hj _ _ _ _ _ _ => ?_, fun b' hb' => .inr (.inl ⟨v, by rw [hown b' hb']⟩), .refl _ _ _, rfl, fun b' hb' => .inr (hb'.imp (fun h => h) fun hv => by rcases hv with ⟨v', hv⟩ | hv <;> cases hv; rfl), fun q hq => ⟨kk, setφ_same _ _, by cases hq; exact ⟨e1, e2⟩⟩⟩
      · rw [hall.length, Array.length_toList]
      · obtain ⟨u, h1, h2⟩ := hall.get hv
        exact ⟨u, by rwa [Array.getElem?_toList] at h1, h2⟩
      · cases j with
        | zero => simp at hj; subst hj; exact RM.mono (fun _ _ h => h) (fun b' hb' => ⟨hk b' hb', rfl⟩) rfl (fun _ _ _ _ _ => rfl) hrm1
        | succ j => simp at hj
      · rw [setφ_other _ (by simp at hj; omega)]
      · have hi0 : i < 1 := (List.getElem?_eq_some_iff.1 hi).1
        have hj0 : j < 1 := (List.getElem?_eq_some_iff.1 hj).1
        omega
    exact calls_of hf hb (fn_core T k CK cuts hc rfl (fun j φ st a w' S h => ⟨S.df, finIO_ok (T j) S hres h⟩) S0 hx)
  · cases hx
/-- .. that uses up an argument. -/
theorem fn_okUse {C : Nat → Ctx E} (T : ∀ k, Tie X P (C k)) (k : Nat) (CK : ∀ j, j ≤ k → CtxOK X P (C j)) {f : FuncId} {fn : Func} {body : Code} {ps : List Ty} {rs : List (Bool × Ty)} {res : List ResultVar} (N p : Nat) (t : Ty) (hf : P.funcs[f]? = some fn) (hb : fn.body = some body)
    (hres : fn.results.toList = res) (cuts : List (Cut E (RT E.toTys rs))) (hc : ∀ c ∈ cuts, CutOK C body (fun C => fin C res rs) true N cuts c) {F : HL E.toTys ps → Option (RT E.toTys rs)}
    (hF : ∀ x, (match iniM t p ps x with | some b => exec (C k) (stops (fin (C k) res rs) cuts k) N [.code body] ⟨cat (iniIO E p ps x) (rep (fn.ntmps - len ps) (.c (.s .dead))), [b]⟩ | none => none) = F x) : SigOK X P f ⟨ps, rs, some (1000 + p), F⟩ := by
  intro x r hx w okA vs hA v o ho
  have hble : Nat.ble 1000 (1000 + p) = true := Nat.ble_eq_true_of_le (Nat.le_add_right _ _)
  rw [hble]
  intro hargs
  rw [Nat.add_sub_cancel_left] at hargs
  have hx : F x = some r := hx
  rw [← hF x] at hx
  split at hx
  · rename_i b hb0
    have hb1 : ∃ y, argAt t p ps x = some y ∧ ioBlk t y = some b := by
      unfold iniM at hb0
      split at hb0
      · rename_i y hy
        exact ⟨y, hy, hb0⟩
      · cases hb0
    obtain ⟨y, hy, hb1⟩ := hb1
    obtain ⟨hiov, hini⟩ := argsIO_at hargs hy
    obtain ⟨kk, e1, e2, hlv, hrm⟩ := io_rm hb1 hiov
    have hown : ∀ b', own (T := E.toTys) (setφ (fun _ => none) 0 kk) [b] b' → o = some b' := by
      rintro b' ⟨j, m, h, g1, g2, g3, g4⟩
      cases j with
      | zero => rw [setφ_same] at g3; cases g3; rw [← e2, g4]
      | succ j => simp at g1
    have hk : ∀ b', okA b' → okb (T := E.toTys) (fun b => okA b ∨ (w.heap.size ≤ b ∨ o = some b)) (setφ (fun _ => none) 0 kk) [b] w b' := fun b' hb' => ⟨hA b' hb', .inl hb', fun h => (ho b' (hown b' h)).2 hb'⟩
    obtain ⟨hrm1, hrm2⟩ := hrm (setφ (fun _ => none) 0 kk) (setφ_same _ _)
    have hini := hini (setφ (fun _ => none) 0 kk) _ hk (hrm2.mono (fun _ _ h => h) fun b' hb' => ⟨hk b' hb', rfl⟩)
    have hlen : (iniIO E p ps x).length = ps.length := iniIO_len
    have hvl : vs.length = ps.length := by rw [← hini.length]; exact hlen
    have S0 : Sim X ⟨w, some (v, o), []⟩ (fun b => okA b ∨ (w.heap.size ≤ b ∨ o = some b)) (setφ (fun _ => none) 0 kk) ⟨cat (iniIO E p ps x) (rep (fn.ntmps - len ps) (.c (.s .dead))), [b]⟩ { tmps := vs.toArray ++ Array.replicate (fn.ntmps - vs.toArray.size) undef, defers := [] } w := by
      have hall : All2 (RA X (setφ (fun _ => none) 0 kk) w (okb (T := E.toTys) (fun b => okA b ∨ (w.heap.size ≤ b ∨ o = some b)) (setφ (fun _ => none) 0 kk) [b] w)) (cat (iniIO E p ps x) (rep (fn.ntmps - len ps) (.c (.s .dead)))) (vs.toArray ++ Array.replicate (fn.ntmps - vs.toArray.size) undef).toList := by
        rw [cat_eq, rep_eq, len_eq]
        simp only [Array.toList_append, Array.toList_replicate, List.size_toArray, hvl]
        refine hini.app ?_
        refine All2.of_get (by simp) fun i v u hv hu => ?_
        have := List.eq_of_mem_replicate (List.mem_of_getElem? hv)
        subst this
        exact fun h => absurd rfl h
      refine ⟨?_, fun i v hv => ?_, fun j m hj => ?_, fun j hj => ?_, fun i j p q h k b hi hj _ _ _ _ _ _ => ?_, fun b' hb' => .inr (.inl ⟨v, by rw [hown b' hb']⟩), .refl _ _ _, rfl, fun b' hb' => .inr (hb'.imp (fun h => h) fun hv => by rcases hv with ⟨v', hv⟩ | hv <;> cases hv; rfl), fun q hq => ⟨kk, setφ_same _ _, by cases hq; exact ⟨e1, e2⟩⟩⟩
      · rw [hall.length, Array.length_toList]
      · obtain ⟨u, h1, h2⟩ := hall.get hv
        exact ⟨u, by rwa [Array.getElem?_toList] at h1, h2⟩
      · cases j with
        | zero => simp at hj; subst hj; exact RM.mono (fun _ _ h => h) (fun b' hb' => ⟨hk b' hb', rfl⟩) rfl (fun _ _ _ _ _ => rfl) hrm1
        | succ j => simp at hj
      · rw [setφ_other _ (by simp at hj; omega)]
      · have hi0 : i < 1 := (List.getElem?_eq_some_iff.1 hi).1
        have hj0 : j < 1 := (List.getElem?_eq_some_iff.1 hj).1
        omega
    exact calls_of hf hb (fn_core T k CK cuts hc rfl (fun j φ st a w' S h => ⟨S.df, finUse_ok (T j) S hres h⟩) S0 hx)
  · cases hx
/-- .. that answers a function with variables of its own. -/
theorem fn_okC {C : Nat → Ctx E} (T : ∀ k, Tie X P (C k)) (k : Nat) (CK : ∀ j, j ≤ k → CtxOK X P (C j)) {f : FuncId} {fn : Func} {body : Code} {ps : List Ty} {n : Nat} {u : Ty} {us : List Ty} {res : List ResultVar} (N : Nat) (hf : P.funcs[f]? = some fn) (hb : fn.body = some body)
    (hres : fn.results.toList = res) (cuts : List (Cut E (den E.toTys u × HL E.toTys us))) (hc : ∀ c ∈ cuts, CutOK C body (fun C => finC C res n u us) false N cuts c) {F : HL E.toTys ps → Option (den E.toTys u × HL E.toTys us)}
    (hF : ∀ x, exec (C k) (stops (finC (C k) res n u us) cuts k) N [.code body] ⟨cat (ini E ps x) (rep (fn.ntmps - len ps) (.c (.s .dead))), []⟩ = F x) : CloOK X P f ⟨ps, n, u, us, F⟩ := by
  intro x r hx w vs hargs
  exact calls_of hf hb (fn_core T k CK cuts hc rfl (fun j φ st a w' S h => ⟨S.df, finC_ok (g := ⟨ps, n, u, us, F⟩) (T j) S hres h⟩) (ini_sim (okA := fun _ => False) (fun b hb => hb.elim) hargs) (by rw [hF x]; exact hx))
/-- The end of a function that writes a struct with lists of its own. -/
def finBox (C : Ctx E) (res : List ResultVar) (n : Nat) (rs : List (Bool × Ty)) (st : St E.toTys) : Option (E.S n × RT E.toTys rs) := match bxT E (E.fs n) && (flatR E rs && Nat.beq (owns rs) 0), nth .gone st.mem 0 with
  | true, .var cs => match bxRd (fun id => nth .gone st.mem id) (E.fs n) cs, fin C res rs st with
    | some (x, js), some z => match distN js with
      | true => some (E.of n x, z)
      | false => none
    | _, _ => none
  | _, _ => none
theorem finBox_ok {C : Ctx E} {A : Nat → Prop} {φ : Nat → Option Hd} {st : St E.toTys} {a : Act} {w : World} (T : Tie X P C) {w1 : World} {v : Value} {b : Nat} {os : List (Option Nat)} (S : Sim X ⟨w1, some (v, some b), os⟩ A φ st a w) {fn : Func} {g : BoxSig E} {res : List ResultVar} (hres : fn.results.toList = res) {r : E.S g.n × RT E.toTys g.rs} (h : finBox C res g.n g.rs st = some r) :
    ∃ v', (results fn a.tmps).run P w = .ok v' w ∧ RetBox X w1 g b os r (.returned v') w := by
  unfold finBox at h
  split at h
  · rename_i cs hfl hm
    simp only [Bool.and_eq_true] at hfl
    obtain ⟨hT, hfr, how⟩ := hfl
    split at h
    · rename_i x js z hx hz
      split at h
      · rename_i hd
        cases h
        obtain ⟨us, ros, h1, h2, h3⟩ := fin_core T S hres hz
        have hm' := rd_some (rd := fun id => nth .gone st.mem id) (fun _ => .inl rfl) hm trivial
        obtain ⟨b', c, e, q1, q2, q3⟩ := S.mm 0 _ hm'
        obtain ⟨hd0, g1, g2, g3⟩ := S.io _ rfl
        rw [q1] at g1; cases g1
        cases g3
        obtain ⟨os', o1, o2, o3, o4⟩ := bxRd_ok S (fun _ => .inl rfl) hT hx q3 hd
        have o1' : FldsOwn X w (E.fs g.n) (E.to g.n (E.of g.n x)) c.toList os' := by rw [E.to_of]; exact o1
        refine ⟨_, h1, us, ros, os', rfl, ⟨S.bel.os, S.bel.tape, S.bel.output, S.bel.size, fun k hk hI => S.bel.block k hk fun hv => ?_⟩, ⟨c, e, q2, o1', fun k hk hin => ?_, o3⟩, fun k hk => ?_, h2.mono fun _ _ => trivial⟩
        · rcases hv with ⟨v', hv⟩ | hv
          · cases hv; exact hI List.mem_cons_self
          · exact hI (List.mem_cons_of_mem _ hv)
        · cases hk
          obtain ⟨j, hj, u, xs, h', r1, r2, r3⟩ := o2 b hin
          have := S.sep 0 j _ _ _ _ b hm' r1 trivial trivial q1 r2 rfl r3
          subst this
          rw [hm'] at r1
          cases r1
        · obtain ⟨j, hj, u, xs, h', r1, r2, r3⟩ := o2 k hk
          rcases S.new k ⟨j, _, h', r1, trivial, r2, r3⟩ with g | ⟨v', g⟩ | g
          · exact .inl g
          · cases g
            have := S.sep 0 j _ _ _ _ b hm' r1 trivial trivial q1 r2 rfl r3
            subst this
            rw [hm'] at r1
            cases r1
          · exact .inr g
      · cases h
    · cases h
  · cases h
theorem fn_okBox {C : Nat → Ctx E} (T : ∀ k, Tie X P (C k)) (k : Nat) (CK : ∀ j, j ≤ k → CtxOK X P (C j)) {f : FuncId} {fn : Func} {body : Code} {n : Nat} {ps : List Ty} {rs : List (Bool × Ty)} {res : List ResultVar} (N : Nat) (hf : P.funcs[f]? = some fn) (hb : fn.body = some body)
    (hres : fn.results.toList = res) (hT : bxT E (E.fs n) = true) {F : E.S n → HL E.toTys ps → Option (E.S n × RT E.toTys rs)}
    (hF : ∀ y x, exec (C k) (stops (finBox (C k) res n rs) [] k) N [.code body] ⟨.c (.s (.ptr 0 0)) :: cat (ini E ps x) (rep (fn.ntmps - Nat.succ (len ps)) (.c (.s .dead))), .var (bxCells (E.fs n) (E.to n y) 1) :: bxArrs (E.fs n) (E.to n y)⟩ = F y x) : BoxOK X P f ⟨n, ps, rs, F⟩ := by
  intro y x r hx w okA vs b os hA hlt hbox hargs
  have hx : F y x = some r := hx
  rw [← hF y x] at hx
  obtain ⟨c, e, hc1, hc2, hc3⟩ := hbox
  obtain ⟨hs, s1, s2, s3⟩ := box_in hT hc2
  obtain ⟨φ, hφ⟩ : ∃ φ : Nat → Option Hd, ∀ j, φ j = match j with | 0 => some ⟨.pointer (some ⟨b, 0, none⟩), some b, 0⟩ | j + 1 => hs[j]? := ⟨_, fun _ => rfl⟩
  have hφ0 : φ 0 = some ⟨.pointer (some ⟨b, 0, none⟩), some b, 0⟩ := hφ 0
  have hφs : ∀ i h, hs[i]? = some h → φ (1 + i) = some h := fun i h hi => by rw [Nat.add_comm, hφ]; exact hi
  have hal : (bxArrs (E.fs n) (E.to n y)).length = hs.length := by rw [bxArrs_len, s2]
  have hown : ∀ k, own (T := E.toTys) φ (.var (bxCells (E.fs n) (E.to n y) 1) :: bxArrs (E.fs n) (E.to n y)) k → some k ∈ some b :: os := by
    rintro k ⟨j, m, h, h1, h2, h3, h4⟩
    cases j with
    | zero => rw [hφ0] at h3; cases h3; cases h4; exact List.mem_cons_self
    | succ j =>
      rw [hφ] at h3
      have h3 : hs[j]? = some h := h3
      refine List.mem_cons_of_mem _ ?_
      rw [← s1, ← h4]
      exact List.mem_map_of_mem (List.mem_of_getElem? h3)
  have hini := ini_ok (X := X) (φ := φ) hargs
  have hlen : (ini E ps x).length = ps.length := ini_len
  have hvl : vs.length = ps.length := by rw [← hini.length]; exact hlen
  have hk : ∀ b', okA b' → okb (T := E.toTys) (fun k => okA k ∨ (w.heap.size ≤ k ∨ some k ∈ some b :: os)) φ (.var (bxCells (E.fs n) (E.to n y) 1) :: bxArrs (E.fs n) (E.to n y)) w b' := fun b' hb' => ⟨(hA b' hb').1, .inl hb', fun h => (hA b' hb').2 (hown b' h)⟩
  have S0 : Sim X ⟨w, some (.pointer (some ⟨b, 0, none⟩), some b), os⟩ (fun k => okA k ∨ (w.heap.size ≤ k ∨ some k ∈ some b :: os)) φ ⟨.c (.s (.ptr 0 0)) :: cat (ini E ps x) (rep (fn.ntmps - Nat.succ (len ps)) (.c (.s .dead))), .var (bxCells (E.fs n) (E.to n y) 1) :: bxArrs (E.fs n) (E.to n y)⟩ { tmps := (Value.pointer (some ⟨b, 0, none⟩) :: vs).toArray ++ Array.replicate (fn.ntmps - (Value.pointer (some ⟨b, 0, none⟩) :: vs).toArray.size) undef, defers := [] } w := by
    have hall : All2 (RA X φ w (okb (T := E.toTys) (fun k => okA k ∨ (w.heap.size ≤ k ∨ some k ∈ some b :: os)) φ (.var (bxCells (E.fs n) (E.to n y) 1) :: bxArrs (E.fs n) (E.to n y)) w)) (.c (.s (.ptr 0 0)) :: cat (ini E ps x) (rep (fn.ntmps - Nat.succ (len ps)) (.c (.s .dead)))) ((Value.pointer (some ⟨b, 0, none⟩) :: vs).toArray ++ Array.replicate (fn.ntmps - (Value.pointer (some ⟨b, 0, none⟩) :: vs).toArray.size) undef).toList := by
      rw [cat_eq, rep_eq, len_eq]
      simp only [Array.toList_append, Array.toList_replicate, List.size_toArray, List.length_cons, hvl, List.cons_append]
      refine .cons (fun _ => ⟨_, b, hφ0, rfl, rfl⟩) ((hini.mono fun _ _ h => RA.mono (fun _ _ h => h) (fun b' hb' => ⟨hk b' hb', rfl⟩) h).app ?_)
      refine All2.of_get (by simp) fun i v u hv hu => ?_
      have := List.eq_of_mem_replicate (List.mem_of_getElem? hv)
      subst this
      exact fun h => absurd rfl h
    obtain ⟨B1, B2⟩ := s3 φ 1 (okb (T := E.toTys) (fun k => okA k ∨ (w.heap.size ≤ k ∨ some k ∈ some b :: os)) φ (.var (bxCells (E.fs n) (E.to n y) 1) :: bxArrs (E.fs n) (E.to n y)) w) hφs
    refine ⟨?_, fun i v hv => ?_, fun j m hj => ?_, fun j hj => ?_, fun i j p q h k b' hi hj lp lq e1 e2 b1 b2 => ?_, fun b' hb' => ?_, .refl _ _ _, rfl, fun b' hb' => ?_, fun q hq => ⟨_, hφ0, by cases hq; exact ⟨rfl, rfl⟩⟩⟩
    · rw [hall.length, Array.length_toList]
    · obtain ⟨u, h1, h2⟩ := hall.get hv
      exact ⟨u, by rwa [Array.getElem?_toList] at h1, h2⟩
    · cases j with
      | zero =>
        have hj : Blk.var (bxCells (E.fs n) (E.to n y) 1) = m := by simpa using hj
        subst hj
        exact ⟨b, c, e, hφ0, hc1, B1⟩
      | succ j =>
        have := (B2 j m (by simpa using hj)).1
        rwa [Nat.add_comm] at this
    · cases j with
      | zero => simp at hj
      | succ j =>
        rw [hφ]
        refine List.getElem?_eq_none ?_
        have hj : (bxArrs (E.fs n) (E.to n y)).length + 1 ≤ j + 1 := by simpa using hj
        omega
    · have hos : ∀ {j : Nat} {h : Hd}, φ (j + 1) = some h → h.blk = some b' → os[j]? = some (some b') := fun {j h} e1 e2 => by
        rw [hφ] at e1
        have e1 : hs[j]? = some h := e1
        rw [← s1, List.getElem?_map, e1, ← e2]
        rfl
      cases i with
      | zero =>
        rw [hφ0] at e1; cases e1; cases b1
        cases j with
        | zero => rfl
        | succ j => exact absurd (List.mem_of_getElem? (hos e2 b2)) (hc3.1 _ rfl)
      | succ i =>
        cases j with
        | zero => rw [hφ0] at e2; cases e2; cases b2; exact absurd (List.mem_of_getElem? (hos e1 b1)) (hc3.1 _ rfl)
        | succ j => rw [Dst_inj hc3.2 (hos e1 b1) (hos e2 b2)]
    · have := hown b' hb'
      rcases List.mem_cons.1 this with e' | h
      · cases e'; exact .inr (.inl ⟨_, rfl⟩)
      · exact .inr (.inr h)
    · rcases hb' with h | ⟨v, h⟩ | h
      · exact .inr (.inl h)
      · cases h; exact .inr (.inr List.mem_cons_self)
      · exact .inr (.inr (List.mem_cons_of_mem _ h))
  exact calls_of hf hb (fn_core T k CK [] (fun c hc => by cases hc) rfl (fin := fun C => finBox C res n rs) (fun j φ st a w' S h => ⟨S.df, finBox_ok (g := ⟨n, ps, rs, F⟩) (T j) S hres h⟩) S0 hx)
/-- A function is the program's, and does what is said. -/
def Okf (X : XRep E) (P : Program) (f : Nat) (g : Sig E.toTys) : Prop := SigOK X P f g ∧ ∃ fn, P.funcs[f]? = some fn ∧ fn.body.isSome = true ∧ (fn.name == "runtime.NumGoroutine") = false
theorem kn {α : Type} {p : α → Prop} : ∀ x ∈ ([] : List α), p x := fun x h => by cases h
theorem kc {α : Type} {p : α → Prop} {c : α} {l : List α} (h : p c) (t : ∀ x ∈ l, p x) : ∀ x ∈ c :: l, p x := fun x hx => by
  rcases List.mem_cons.1 hx with rfl | hx
  · exact h
  · exact t x hx
theorem calls_ok {tb : Tab} {l : List (Nat × Sig E.toTys)} (h : ∀ p ∈ l, Okf X P p.1 p.2) : CtxOK X P (tb.ctx fun f => lk f l) := by
  have key : ∀ {l : List (Nat × Sig E.toTys)} {f g}, (∀ p ∈ l, Okf X P p.1 p.2) → lk f l = some g → Okf X P f g := by
    intro l
    induction l with
    | nil => intro f g _ h; cases h
    | cons p l ih =>
      intro f g h hg
      obtain ⟨u, x⟩ := p
      simp only [lk] at hg
      split at hg
      · rename_i e
        cases hg
        have e := Nat.eq_of_beq_eq_true e
        subst e
        exact h _ List.mem_cons_self
      · exact ih (fun p hp => h p (List.mem_cons_of_mem _ hp)) hg
  exact ⟨fun f g hg => (key h hg).1, fun f g hg => (key h hg).2, fun f g hg => (by cases hg), fun f g hg => (by cases hg)⟩
/-- Which blocks operations look at, where regions are done in any order. -/
def pmL : List (Nat × Nat × List Nat) → Nat → Nat → Nat → Bool
  | [], _, _, _ => true
  | (r, o, l) :: ps, r', o', id => match Nat.beq r r', Nat.beq o o' with
    | true, true => isIn id l
    | _, _ => pmL ps r' o' id
def _root_.Go.Proofs.Ytlamlgfngpmhgaa.V.B.Ctx.pmd (C : Ctx E) (l : List (Nat × Nat × List Nat)) : Ctx E := ⟨C.ty, C.fld, C.bytes, C.eqs, C.str, C.calls, pmL l, C.clos, C.boxes⟩
theorem Tie.pmd {C : Ctx E} (T : Tie X P C) (l : List (Nat × Nat × List Nat)) : Tie X P (C.pmd l) := ⟨T.mixed, T.str, T.info, T.desc, T.fld, T.part, T.eqs, T.aggz⟩
theorem CtxOK.pmd {C : Ctx E} (T : CtxOK X P C) (l : List (Nat × Nat × List Nat)) : CtxOK X P (C.pmd l) := ⟨T.sig, T.fn, T.clo, T.box⟩
def Okc (X : XRep E) (P : Program) (f : Nat) (g : CloSig E.toTys) : Prop := CloOK X P f g ∧ ∃ fn, P.funcs[f]? = some fn ∧ fn.body.isSome = true ∧ (fn.name == "runtime.NumGoroutine") = false
def _root_.Go.Proofs.Ytlamlgfngpmhgaa.V.B.Ctx.cl (C : Ctx E) (l : List (Nat × CloSig E.toTys)) : Ctx E := ⟨C.ty, C.fld, C.bytes, C.eqs, C.str, C.calls, C.pm, fun f => lk f l, C.boxes⟩
theorem Tie.cl {C : Ctx E} (T : Tie X P C) (l : List (Nat × CloSig E.toTys)) : Tie X P (C.cl l) := ⟨T.mixed, T.str, T.info, T.desc, T.fld, T.part, T.eqs, T.aggz⟩
theorem CtxOK.cl {C : Ctx E} (T : CtxOK X P C) {l : List (Nat × CloSig E.toTys)} (h : ∀ p ∈ l, Okc X P p.1 p.2) : CtxOK X P (C.cl l) := by
  have key : ∀ {l : List (Nat × CloSig E.toTys)} {f g}, (∀ p ∈ l, Okc X P p.1 p.2) → lk f l = some g → Okc X P f g := by
    intro l
    induction l with
    | nil => intro f g _ h; cases h
    | cons p l ih =>
      intro f g h hg
      obtain ⟨u, x⟩ := p
      simp only [lk] at hg
      split at hg
      · rename_i e
        cases hg
        have e := Nat.eq_of_beq_eq_true e
        subst e
        exact h _ List.mem_cons_self
      · exact ih (fun p hp => h p (List.mem_cons_of_mem _ hp)) hg
  exact ⟨T.sig, T.fn, fun f g hg => key h hg, T.box⟩
def Okx (X : XRep E) (P : Program) (f : Nat) (g : BoxSig E) : Prop := BoxOK X P f g ∧ ∃ fn, P.funcs[f]? = some fn ∧ fn.body.isSome = true ∧ (fn.name == "runtime.NumGoroutine") = false
def _root_.Go.Proofs.Ytlamlgfngpmhgaa.V.B.Ctx.bx (C : Ctx E) (l : List (Nat × BoxSig E)) : Ctx E := ⟨C.ty, C.fld, C.bytes, C.eqs, C.str, C.calls, C.pm, C.clos, fun f => lk f l⟩
theorem Tie.bx {C : Ctx E} (T : Tie X P C) (l : List (Nat × BoxSig E)) : Tie X P (C.bx l) := ⟨T.mixed, T.str, T.info, T.desc, T.fld, T.part, T.eqs, T.aggz⟩
theorem CtxOK.bx {C : Ctx E} (T : CtxOK X P C) {l : List (Nat × BoxSig E)} (h : ∀ p ∈ l, Okx X P p.1 p.2) : CtxOK X P (C.bx l) := by
  have key : ∀ {l : List (Nat × BoxSig E)} {f g}, (∀ p ∈ l, Okx X P p.1 p.2) → lk f l = some g → Okx X P f g := by
    intro l
    induction l with
    | nil => intro f g _ h; cases h
    | cons p l ih =>
      intro f g h hg
      obtain ⟨u, x⟩ := p
      simp only [lk] at hg
      split at hg
      · rename_i e
        cases hg
        have e := Nat.eq_of_beq_eq_true e
        subst e
        exact h _ List.mem_cons_self
      · exact ih (fun p hp => h p (List.mem_cons_of_mem _ hp)) hg
  exact ⟨T.sig, T.fn, T.clo, fun f g hg => key h hg⟩
theorem ok0x {f : Nat} {g : BoxSig E} (h : ∀ y x, g.f y x = none) : BoxOK X P f g := fun y x r hx => by rw [h] at hx; cases hx
theorem ok0 {f : Nat} {g : Sig E.toTys} (h : ∀ x, g.f x = none) : SigOK X P f g := fun x r hx => by rw [h] at hx; cases hx
def ds (n : Nat) : List PA := rep n (.one .dead)
end
end Go.Proofs.Ytlamlgfngpmhgaa.V.B
namespace Go.Proofs.Ytlamlgfngpmhgaa.V.B
open Go.RowKit
set_option linter.unusedVariables false
set_option linter.unusedSimpArgs false
def wk : List (Bool × Ty) → List (Bool × Ty)
  | [] => []
  | (_, t) :: r => (false, t) :: wk r
def wkR {T : Tys} : (rs : List (Bool × Ty)) → RT T rs → RT T (wk rs)
  | [], _ => ()
  | [(_, t)], x => x
  | (_, t) :: q :: rs, x => (x.1, wkR (q :: rs) x.2)
theorem rt_wk {T : Tys} : ∀ rs : List (Bool × Ty), RT T rs = RT T (wk rs)
  | [] => rfl
  | [(_, t)] => rfl
  | (_, t) :: q :: rs => congrArg (fun A => den T t × A) (rt_wk (q :: rs))
theorem cast_pair {A B D : Type} (e : A = B) (x : D × A) (h : (D × A) = (D × B)) : cast h x = (x.1, cast e x.2) := by
  subst e; rfl
theorem wkR_cast {T : Tys} : ∀ (rs : List (Bool × Ty)) (x : RT T rs) (h : RT T rs = RT T (wk rs)), cast h x = wkR rs x
  | [], x, _ => rfl
  | [(_, t)], x, _ => rfl
  | (_, t) :: q :: rs, x, h => (cast_pair (rt_wk (q :: rs)) x h).trans (congrArg (Prod.mk x.1) (wkR_cast (q :: rs) x.2 _))
theorem cast_some {A B : Type} (e : A = B) (h : Option A = Option B) (x : A) : cast h (some x) = some (cast e x) := by
  subst e; rfl
theorem cast_none {A B : Type} (e : A = B) (h : Option A = Option B) : cast h none = none := by
  subst e; rfl
def _root_.Go.Proofs.Ytlamlgfngpmhgaa.V.B.Sig.weak {T : Tys} (g : Sig T) : Sig T := ⟨g.ps, wk g.rs, none, fun x => match g.io with
  | none => cast (congrArg Option (rt_wk g.rs)) (g.f x)
  | some _ => none⟩
section
variable {E : Env} {X : XRep E} {P : Program} {w : World}
theorem res1_weak {ok ok' : Nat → Prop} {b : Bool} {t : Ty} {x : den E.toTys t} {v : Value} {o : Option Nat} (hk : ∀ b, ok b → ok' b) (ho : ∀ b, o = some b → ok' b) (h : Res1 X w ok b t x v o) : Res1 X w ok' false t x v none := by
  cases hio : isOwn b t with
  | false =>
    have h' : o = none ∧ ∃ cs, Rep X w ok t x cs ∧ v = vOf t cs := by cases b <;> cases t <;> first | exact h | cases hio
    obtain ⟨_, cs, h1, h2⟩ := h'
    exact ⟨rfl, cs, h1.mono fun b hb => ⟨hk b hb, rfl⟩, h2⟩
  | true =>
    cases b <;> cases t <;> first | (cases hio; done) | skip
    obtain ⟨ad, cap, rfl, h2, h3⟩ := h
    refine ⟨rfl, [.slice ad (List.length x) cap], ?_, rfl⟩
    rcases h3 with ⟨rfl, rfl⟩ | ⟨b, c, e, L, rfl, rfl, g3, g4, g5, g6⟩
    · have : x = [] := List.eq_nil_of_length_eq_zero (by omega)
      subst this
      exact Rep.slice.2 ⟨_, 0, rfl, h2, fun h => absurd rfl h⟩
    · refine Rep.sliceM h2 (g5.mono fun b hb => ⟨hk b hb, rfl⟩) fun _ => ⟨b, 0, rfl, ho b rfl, ?_⟩
      rw [← g6]
      exact (At.row g3).take
theorem resL_weak {ok ok' : Nat → Prop} (hk : ∀ b, ok b → ok' b) : ∀ {rs : List (Bool × Ty)} {x : RT E.toTys rs} {us : List Value} {os : List (Option Nat)}, (∀ b, some b ∈ os → ok' b) → ResL X w ok rs x us os → ∃ os', ResL X w ok' (wk rs) (wkR rs x) us os' ∧ ∀ b, some b ∉ os'
  | [], _, _, _, _, h => ⟨[], ⟨h.1, rfl⟩, fun b hb => by simp at hb⟩
  | [(b, t)], x, us, os, ho, h => by
    obtain ⟨v, o, rfl, rfl, h⟩ := h
    exact ⟨[none], ⟨v, none, rfl, rfl, res1_weak hk (fun b e => ho b (by simp [e])) h⟩, fun b hb => by simp at hb⟩
  | (b, t) :: q :: rs, x, us, os, ho, h => by
    obtain ⟨v, o, us', os', rfl, rfl, h, k⟩ := h
    obtain ⟨os2, k1, k2⟩ := resL_weak hk (fun b hb => ho b (by simp [hb])) k
    exact ⟨none :: os2, ⟨v, none, us', os2, rfl, rfl, res1_weak hk (fun b e => ho b (by simp [e])) h, k1⟩, fun b hb => by
      rcases List.mem_cons.1 hb with hb | hb
      · cases hb
      · exact k2 b hb⟩
theorem Okf.weak {f : Nat} {g : Sig E.toTys} (h : Okf X P f g) : Okf X P f g.weak := by
  refine ⟨fun x (r : RT E.toTys (wk g.rs)) hx w okA vs hA => ?_, h.2⟩
  show ArgsRep X w okA g.ps x vs → Calls P f vs.toArray w (RetOK X w okA (wk g.rs) r)
  intro hargs
  have hx : (match g.io with
    | none => (cast (congrArg Option (rt_wk g.rs)) (g.f x) : Option (RT E.toTys (wk g.rs)))
    | some _ => none) = some r := hx
  split at hx
  · rename_i hio
    cases hy : g.f x with
    | none => rw [hy, cast_none (rt_wk g.rs)] at hx; cases hx
    | some y =>
      rw [hy, cast_some (rt_wk g.rs), wkR_cast] at hx
      cases hx
      have hs := h.1 x y hy w okA vs hA
      rw [hio] at hs
      refine (hs hargs).mono ?_
      rintro e w' ⟨us, os, rfl, hb, hres, hrng⟩
      obtain ⟨os', k1, k2⟩ := resL_weak (ok' := fun b => b < w'.heap.size ∧ (okA b ∨ w.heap.size ≤ b)) (fun b hb => ⟨hb.1, hb.2.1⟩) (fun b hb => ⟨(hrng b hb).2, .inr (hrng b hb).1⟩) hres
      exact ⟨us, os', rfl, hb, k1.mono fun b hb => ⟨hb.1, hb.2, k2 b⟩, fun b hb => absurd hb (k2 b)⟩
  · cases hx
end
end Go.Proofs.Ytlamlgfngpmhgaa.V.B
namespace Go.Proofs.Ytlamlgfngpmhgaa.V.B
open Go.RowKit
set_option linter.unusedVariables false
set_option linter.unusedSimpArgs false
section
variable {E : Env} {X : XRep E} {P : Program}
/-- Puts a bool where it was asked whether the list is nil. -/
def clSt (b : Bool) (st : St E.toTys) : St E.toTys := ⟨putT (putT st.tmps (some 3) (nth (.c (.s .dead)) st.tmps 0)) (some 4) (.c (.s (.val .bool b))), st.mem⟩
def noStops {R : Type} (fin : St E.toTys → Option R) : Stops E R := ⟨fun _ => false, fun _ => false, fun _ _ => none, fun _ _ => none, fin⟩
theorem clone_ok {C : Ctx E} (T : Tie X P C) (CK : CtxOK X P C) {f : FuncId} {fn : Func} {t i0 i1 : Nat} {u : Ty} {o0 : Array Oper} {m1 q1 : Oper} {A B : Code} {res : List ResultVar} (hf : P.funcs[f]? = some fn)
    (hb : fn.body = some (.seq (.region i0 o0 false) (.seq (.seq (.region i1 #[m1, q1] false) (.cond (.tmp 4) A .skip)) B))) (hres : fn.results.toList = res)
    (hm : m1.op = .move (.tmp 0) ∧ m1.dst = some 3 ∧ m1.guard = none) (hq : q1.op = .binOp .eql t (.tmp 3) (.const (.slice none 0 0)) t ∧ q1.dst = some 4 ∧ q1.guard = none) (ht : C.ty t = some (.slice u))
    (g : List (den E.toTys u) → St E.toTys) (h0 : ∀ x : HL E.toTys [.slice u], regC C i0 o0 false ⟨cat (ini E [.slice u] x) (rep (fn.ntmps - 1) (.c (.s .dead))), []⟩ some = some (g x.1))
    (h1 : ∀ xs, nth (.c (.s .dead)) (g xs).tmps 0 = .c (.s (.val (.slice u) xs))) (h4 : ∀ xs b, nth (.c (.s .dead)) (clSt b (g xs)).tmps 3 = .c (.s (.val (.slice u) xs)) ∧ nth (.c (.s .dead)) (clSt b (g xs)).tmps 4 = .c (.s (.val .bool b)))
    {F : List (den E.toTys u) → Option (List (den E.toTys u))}
    (hA : exec C (noStops (fin C res [(true, .slice u)])) 40 [.code A, .code B] (clSt true (g [])) = F []) (hB : ∀ xs, exec C (noStops (fin C res [(true, .slice u)])) 40 [.code .skip, .code B] (clSt false (g xs)) = F xs) :
    SigOK X P f ⟨[.slice u], [(true, .slice u)], none, fun x => F x.1⟩ := by
  intro x r hx w okA vs hA' hargs
  have hx : F x.1 = some r := hx
  obtain ⟨xs, _⟩ := x
  have S0 := ini_sim (X := X) (m := fn.ntmps) hA' hargs
  have h0 := h0 (xs, ())
  refine calls_of hf hb (Ends.step (fun b cs => step_seq) (region_ok T CK S0 (kk := some) (r := g xs) ?_ h0))
  intro φ st a w' S hst
  cases hst
  refine Ends.step (fun b cs => step_seq) (Ends.step (fun b cs => step_seq) ?_)
  have hv := S.ev (X := X) (.tmp 0)
  rw [show ev (g xs).tmps (.tmp 0) = .c (.s (.val (.slice u) xs)) from h1 xs] at hv
  obtain ⟨ad, cap, L, e1, e2, e3, e4⟩ := (hv (by intro h; cases h)).2.sliceL
  obtain ⟨d, hd1, hd2⟩ := T.desc t _ ht
  obtain ⟨e, rfl⟩ : ∃ e, d = .slice e := by cases d <;> first | exact ⟨_, rfl⟩ | cases hd2
  have S2 : Sim X ⟨w, none, []⟩ (fun b => okA b ∨ w.heap.size ≤ b) φ (clSt (ad.isNone) (g xs)) ((a.put (some 3) (a.eval (.tmp 0))).put (some 4) (.bool ad.isNone)) w' := by
    have S1 := S.put (tm := (g xs).tmps) (mem := (g xs).mem) (some 3) (v := nth (.c (.s .dead)) (g xs).tmps 0) (u := a.eval (.tmp 0)) (by rw [h1]; exact hv)
    exact S1.put (some 4) RA.ofBool
  have e3' : (a.put (some 3) (a.eval (.tmp 0))).eval (.tmp 3) = .slice ad xs.length cap := by
    have := S2.ev (X := X) (.tmp 3)
    rw [show ev (clSt ad.isNone (g xs)).tmps (.tmp 3) = .c (.s (.val (.slice u) xs)) from (h4 xs _).1] at this
    have hlt : 3 < a.tmps.size := by
      have h5 := (h4 xs true).1
      rw [nth_eq, List.getD_eq_getElem?_getD] at h5
      have h6 : (clSt true (g xs)).tmps.length = (g xs).tmps.length := by simp [clSt, putT, put1_eq]
      rw [S.sz, ← h6]
      apply Classical.byContradiction
      intro h7
      rw [List.getElem?_eq_none (by omega)] at h5
      cases h5
    have h8 : (a.put (some 3) (a.eval (.tmp 0))).eval (.tmp 3) = a.eval (.tmp 0) := by
      simp [Act.put, Act.eval, hlt]
    rw [h8, e1]
  have run2 : Ends P (fun a w'' => a.defers = [] ∧ ∃ v, (results fn a.tmps).run P w'' = .ok v w'' ∧ RetOK X w okA [(true, .slice u)] r (.returned v) w'') [.code (.cond (.tmp 4) A .skip), .code B] ((a.put (some 3) (a.eval (.tmp 0))).put (some 4) (.bool ad.isNone)) w' := by
    have ht4 := S2.ev (X := X) (.tmp 4)
    rw [show ev (clSt ad.isNone (g xs)).tmps (.tmp 4) = .c (.s (.val .bool ad.isNone)) from (h4 xs _).2] at ht4
    have ht4 := (ht4 (by intro h; cases h)).2
    have ht4 : ((a.put (some 3) (a.eval (.tmp 0))).put (some 4) (.bool ad.isNone)).eval (.tmp 4) = .bool ad.isNone := by simpa using Rep.bool.1 ht4
    refine Ends.step (fun b' cs => step_cond ht4) ?_
    have fin' : ∀ φ st a w'', Sim X ⟨w, none, []⟩ (fun b => okA b ∨ w.heap.size ≤ b) φ st a w'' → fin C res [(true, .slice u)] st = some r → (a.defers = [] ∧ ∃ v, (results fn a.tmps).run P w'' = .ok v w'' ∧ RetOK X w okA [(true, .slice u)] r (.returned v) w'') := fun φ st a w'' S h => ⟨S.df, fin_ok T S hres h⟩
    have go := fun k st a (S : Sim X ⟨w, none, []⟩ (fun b => okA b ∨ w.heap.size ≤ b) φ st a w') (h : exec C (noStops (fin C res [(true, .slice u)])) 40 k st = some r) => exec_ok T CK (G := noStops (fin C res [(true, .slice u)])) (L := locT k) (F := fun a w'' => a.defers = [] ∧ ∃ v, (results fn a.tmps).run P w'' = .ok v w'' ∧ RetOK X w okA [(true, .slice u)] r (.returned v) w'') fin'
      (fun _ _ _ _ _ _ _ _ h _ => by cases h) (fun _ _ _ _ _ _ _ _ h _ => by cases h) 40 k φ st a w' (fun x hx => hx) S h
    cases ad with
    | none =>
      have hxe : xs = [] := Classical.byContradiction fun hne => by obtain ⟨b, o', h, _⟩ := e4 hne; cases h
      subst hxe
      exact go _ _ _ S2 (by rw [← hx]; exact hA)
    | some ad =>
      exact go _ _ _ S2 (by rw [← hx]; exact hB xs)
  have hw : (Code.region i1 #[m1, q1] false).wp P (fun e a w'' => e = .normal ∧ Ends P (fun a w'' => a.defers = [] ∧ ∃ v, (results fn a.tmps).run P w'' = .ok v w'' ∧ RetOK X w okA [(true, .slice u)] r (.returned v) w'') [.code (.cond (.tmp 4) A .skip), .code B] a w'') a w' := by
    refine wp_region ?_
    have hw1 : ∀ a : Act, Region.wanted m1 (yielded #[m1, q1] a.tmps) = true := fun a => by unfold Region.wanted; rw [hm.2.2]
    have hw2 : ∀ a : Act, Region.wanted q1 (yielded #[m1, q1] a.tmps) = true := fun a => by unfold Region.wanted; rw [hq.2.2]
    show wpOps P #[m1, q1] _ [0, 1] a w'
    rw [wpOps_cons]
    unfold wpOp
    simp only [List.getElem?_toArray, List.getElem?_cons_zero, hw1, if_true]
    refine .inl ?_
    have r1 : (execOp a.eval m1).run P w' = .ok (.value (a.eval (.tmp 0))) w' := by simp [execOp, hm.1]
    unfold Oper.wp
    rw [r1]
    show wpOps P #[m1, q1] _ [1] (a.put m1.dst _) w'
    rw [wpOps_cons]
    unfold wpOp
    simp only [List.getElem?_toArray, List.getElem?_cons_succ, List.getElem?_cons_zero, hw2, if_true, hm.2.1]
    refine .inl ?_
    have r2 : (execOp (a.put (some 3) (a.eval (.tmp 0))).eval q1).run P w' = .ok (.value (.bool ad.isNone)) w' := by
      have hg : (eqGuard .eql t (.tmp 3) (.const (.slice none 0 0)) (.slice ad xs.length cap) (.slice none 0 0)).run P w' = .ok () w' := by simp [eqGuard]
      have he : (binOp .eql t (.slice ad xs.length cap) (.slice none 0 0)).run P w' = .ok (.bool ad.isNone) w' := by
        unfold binOp
        simp only [Sem.run_bind, run_equal_slice_nil w' t e ad _ _ hd1, Result.andThen_ok, Sem.run_pure]
      simp only [execOp, hq.1, e3', show ∀ a : Act, a.eval (.const (.slice none 0 0)) = .slice none 0 0 from fun _ => rfl, Sem.run_bind, hg, Result.andThen_ok, he, Sem.run_map, Sem.run_pure]
    unfold Oper.wp
    rw [r2]
    simp only [Oper.upon, hq.2.1, wpOps]
    exact ⟨trivial, run2⟩
  intro b cs
  obtain ⟨e, a', w2, ⟨rfl, hE⟩, harr⟩ := hw b [.code (.cond (.tmp 4) A .skip), .code B] cs
  obtain ⟨a2, w3, todo, g1, g2⟩ := hE b cs
  refine ⟨a2, w3, todo, Steps.trans (Steps.trans ?_ harr) g1, g2⟩
  exact Steps.refl _ _
end
end Go.Proofs.Ytlamlgfngpmhgaa.V.B
namespace Go.Proofs.Ytlamlgfngpmhgaa.V.B
open Go.ChangeShapes Go.WideShapes Go.ChangeAt Go.RowKit Go.Deep
set_option linter.unusedVariables false
set_option linter.unusedSimpArgs false
def goodT (E : Env) (G : (n : Nat) → E.S n → Prop) : (t : Ty) → den E.toTys t → Prop
  | .int k, n => (Lit.int k n).wf = true
  | .bool, _ => True
  | .slice t, l => (∀ x ∈ (l : List (den E.toTys t)), goodT E G t x) ∧ List.length l ≤ maxLen
  | .ptr t, o => match o with
    | none => True
    | some x => goodT E G t x
  | .st n, x => G n x
  | .arr n t, l => List.length l = n ∧ ∀ x ∈ (l : List (den E.toTys t)), goodT E G t x
  | .ext _ _, _ => True
  | .fnv _, _ => True
  | .em, _ => True
  | .any, _ => True
def goodL {T : Tys} (Q : (t : Ty) → den T t → Prop) : (ts : List Ty) → HL T ts → Prop
  | [], _ => True
  | [t], x => Q t x.1
  | t :: u :: ts, x => Q t x.1 ∧ goodL Q (u :: ts) x.2
def goodS (E : Env) : Nat → (n : Nat) → E.S n → Prop
  | 0, _, _ => True
  | d + 1, n, x => goodL (goodT E (goodS E d)) (E.fs n) (E.to n x)
/-- Numbers in range, lists of a length that there is. -/
def good (E : Env) (d : Nat) (t : Ty) (x : den E.toTys t) : Prop := goodT E (goodS E d) t x
theorem goodL_cons {T : Tys} {Q : (t : Ty) → den T t → Prop} {t : Ty} {ts : List Ty} {x : HL T (t :: ts)} : goodL Q (t :: ts) x ↔ Q t x.1 ∧ goodL Q ts x.2 := by
  cases ts with
  | nil => exact ⟨fun h => ⟨h, trivial⟩, fun h => h.1⟩
  | cons u ts => exact Iff.rfl
def flatTys (E : Env) : Ty → List Ty
  | .st n => E.fs n
  | t => [t]
def pre : List Ty → List Ty → Option (List Ty)
  | [], l => some l
  | t :: ts, u :: us => if t = u then pre ts us else none
  | _, _ => none
theorem pre_some : ∀ {a b c : List Ty}, pre a b = some c → b = a ++ c
  | [], b, c, h => by cases h; rfl
  | t :: ts, u :: us, c, h => by
    simp only [pre] at h
    split at h
    · rename_i e
      rw [e, pre_some h]; rfl
    · cases h
  | _ :: _, [], _, h => by cases h
def isArr1 : Ty → Bool
  | .arr _ _ => true
  | .ext _ _ => true
  | .fnv _ => true
  | .em => true
  | .any => true
  | .slice t => isArr1 t
  | .ptr _ => true
  | _ => false
/-- .. an argument may be an array, too. -/
def isArrA : Ty → Bool
  | .arr _ t => isArr1 t
  | t => isArr1 t
def chkFl (E : Env) (P : Program) (tb : Tab) : List Field → Nat → List Ty → Bool
  | [], _, [] => true
  | f :: fs, off, ts => Nat.beq f.offset off && match lk f.type tb.tys with
    | some ty => !isArr1 ty && match pre (flatTys E ty) ts with
      | some r => chkFl E P tb fs (off + len (flatTys E ty)) r
      | none => false
    | none => false
  | _, _, _ => false
def chkSt (E : Env) (P : Program) (tb : Tab) : List (Nat × Ty) → Bool
  | [] => true
  | (t, .st n) :: r => (match P.underlying t with
    | some (.struct fs) => chkFl E P tb fs.toList 0 (E.fs n)
    | _ => false) && chkSt E P tb r
  | _ :: r => chkSt E P tb r
section
variable {E : Env} {P : Program} {tb : Tab}
theorem chkSt_spec {t n : Nat} : ∀ {l : List (Nat × Ty)}, chkSt E P tb l = true → lk t l = some (.st n) → ∃ fs, P.underlying t = some (.struct fs) ∧ chkFl E P tb fs.toList 0 (E.fs n) = true
  | [], _, h => by cases h
  | (u, ty) :: l, h1, h => by
    simp only [lk] at h
    split at h
    · rename_i e
      cases h
      have e := Nat.eq_of_beq_eq_true e
      subst e
      simp only [chkSt, Bool.and_eq_true] at h1
      have h1 := h1.1
      split at h1
      · exact ⟨_, by assumption, h1⟩
      · cases h1
    · refine chkSt_spec ?_ h
      cases ty <;> first | exact h1 | (simp only [chkSt, Bool.and_eq_true] at h1; exact h1.2)
theorem rvl_app {w : World} {ok : Nat → Prop} {X : XRep E} : ∀ {ts us : List Ty} {x : HL E.toTys ts} {y : HL E.toTys us} {cs ds : List Value}, RVL (Rep X w ok) ts x cs → RVL (Rep X w ok) us y ds → (∀ d, goodL (good E d) ts x) → (∀ d, goodL (good E d) us y) →
    ∃ z : HL E.toTys (ts ++ us), RVL (Rep X w ok) (ts ++ us) z (cs ++ ds) ∧ ∀ d, goodL (good E d) (ts ++ us) z
  | [], us, x, y, cs, ds, h1, h2, g1, g2 => by cases h1; exact ⟨y, h2, g2⟩
  | t :: ts, us, x, y, cs, ds, ⟨v, r, e, a1, a2, a3⟩, h2, g1, g2 => by
    obtain ⟨z, z1, z2⟩ := rvl_app a3 h2 (fun d => (goodL_cons.1 (g1 d)).2) g2
    subst e
    exact ⟨(x.1, z), ⟨v, r ++ ds, rfl, a1, a2, z1⟩, fun d => goodL_cons.2 ⟨(goodL_cons.1 (g1 d)).1, z2 d⟩⟩
variable (hT : ∀ calls, Tie (E := E) (XR E) P (tb.ctx calls)) (hS : chkSt E P tb tb.tys = true)
include hT hS
theorem reads {H : Type} {enc : TypeId × Value → H} {w : World} {base : Nat} {spare : Nat → Bool} {held : Bool} : ∀ (fuel : Nat) {t : Nat} {ty : Ty} {cs : List Value} {x : DataW H × List MemPlace}, lk t tb.tys = some ty → isArr1 ty = false → DataW.trod enc P w base spare held fuel t cs = some x →
    ∃ a : den E.toTys ty, Rep (XR E) w (fun b => b < w.heap.size) ty a cs ∧ ∀ d, good E d ty a := by
  have T := hT (fun _ => none)
  intro fuel
  induction fuel with
  | zero => intro t ty cs x ht hty h; simp [DataW.trod] at h
  | succ fuel ih =>
    intro t ty cs x ht hty h
    obtain ⟨d, hd1, hd2⟩ := T.desc t ty ht
    have cell : ∀ {e : Nat} {u : Ty}, lk e tb.tys = some u → P.cellsOf e = sz E u := by
      intro e u he
      obtain ⟨i, z, h1, _, h3, _⟩ := T.info e u he
      simp [Program.cellsOf, h1, h3]
    cases ty with
    | int k =>
      cases d <;> simp only at hd2
      subst hd2
      obtain ⟨n, rfl, _, hw⟩ := DataW.trod_int hd1 h
      exact ⟨n, Rep.int.2 rfl, fun d => hw⟩
    | bool =>
      cases d <;> simp only at hd2
      obtain ⟨n, rfl, _⟩ := DataW.trod_bool hd1 h
      exact ⟨n, Rep.bool.2 rfl, fun d => trivial⟩
    | slice u =>
      cases d <;> simp only at hd2
      rename_i e
      obtain ⟨he, _⟩ := hd2
      have he : lk e tb.tys = some u := he
      obtain ⟨i0, z0, p1, p2, p3, p4, p5, p6⟩ := T.info e u he
      have hce := cell he
      rcases DataW.trod_slice hd1 h with ⟨rfl, _⟩ | ⟨a, ln, cap, elems, rest, n, hfu, rfl, rfl, hb, hl, hm, hlen, hel, _⟩
      · exact ⟨([] : List (den E.toTys u)), Rep.slice.2 ⟨none, 0, rfl, Nat.le_refl _, fun h => absurd rfl h⟩, fun d => ⟨fun x hx => absurd hx List.not_mem_nil, Nat.zero_le _⟩⟩
      · obtain rfl : fuel = n := by omega
        have hau : isArr1 u = false := hty
        have hex : ∀ i, i < ln → ∃ y : den E.toTys u, ∃ c, Rep (XR E) w (fun b => b < w.heap.size) u y c ∧ (∀ d, good E d u y) ∧ c.length = sz E u ∧ ∀ j v, c[j]? = some v → w.cell? ((a.add (i * sz E u)).add j) = some v := by
          intro i hi
          have := hel i hi
          rw [hce] at this
          have hi' : i < elems.length := by omega
          rw [List.getElem?_eq_getElem hi'] at this
          cases hc : w.cells? base (a.add (i * sz E u)) (sz E u) with
          | none => rw [hc] at this; cases this
          | some c =>
            rw [hc] at this
            simp only [Option.bind_some] at this
            obtain ⟨_, g2, g3⟩ := World.cells?_some hc
            obtain ⟨y, y1, y2⟩ := ih he hau this
            exact ⟨y, c, y1, y2, g2, fun j v hv => by rw [g3 j (by rw [← g2]; exact (List.getElem?_eq_some_iff.1 hv).1)]; exact hv⟩
        have hlen2 : (List.ofFn (fun i : Fin ln => Classical.choose (hex i.1 i.2))).length = ln := List.length_ofFn
        refine ⟨List.ofFn (fun i : Fin ln => Classical.choose (hex i.1 i.2)), Rep.slice.2 ⟨some a, cap, by rw [hlen2], by rw [hlen2]; exact hl, fun hne => ?_⟩, fun d => ⟨fun y hy => ?_, by rw [hlen2]; omega⟩⟩
        · have hpos : 0 < ln := by
            rcases Nat.eq_zero_or_pos ln with h | h
            · subst h; exact absurd (by simp) hne
            · exact h
          obtain ⟨y0, c0, _, _, l0, k0⟩ := hex 0 hpos
          have hc0 : ∃ v, c0[0]? = some v := ⟨c0[0]'(by omega), List.getElem?_eq_getElem _⟩
          obtain ⟨v0, hv0⟩ := hc0
          have hc := k0 0 v0 hv0
          have hadd0 : (a.add (0 * sz E u)).add 0 = a := by simp [Addr.add]
          rw [hadd0] at hc
          have hsp := World.cell?_spot hc
          obtain ⟨b, o, s⟩ := a
          simp only at hsp
          subst hsp
          refine ⟨b, o, rfl, ?_, fun j p hp => ?_⟩
          · unfold World.cell? at hc
            split at hc
            · rename_i hh
              exact (Array.getElem?_eq_some_iff.1 hh).1
            · cases hc
          · obtain ⟨hj, hpj⟩ := List.getElem?_eq_some_iff.1 hp
            rw [List.length_ofFn] at hj
            rw [List.getElem_ofFn] at hpj
            obtain ⟨c, h1, _, h3, h4⟩ := Classical.choose_spec (hex j hj)
            refine ⟨c, by rw [← hpj]; exact h1, fun q v hq => ?_⟩
            have := h4 q v hq
            have e : ((⟨b, o, none⟩ : Addr).add (j * sz E u)).add q = ⟨b, o + j * sz E u + q, none⟩ := by
              unfold Addr.add
              split <;> split <;> simp_all
            rw [e] at this
            exact this
        · obtain ⟨i, rfl⟩ := List.mem_ofFn.1 hy
          obtain ⟨c, _, h2, _⟩ := Classical.choose_spec (hex i.1 i.2)
          exact h2 d
    | ptr u => cases hty
    | st n =>
      obtain ⟨fs, hfs, hfl⟩ := chkSt_spec hS ht
      obtain ⟨xs, m, hfu, _, hcl, hxl, hall⟩ := DataW.trod_struct hfs h
      obtain rfl : fuel = m := by omega
      rw [cell ht] at hcl
      have key : ∀ (l : List Field) (off : Nat) (ts : List Ty), chkFl E P tb l off ts = true → (∀ f ∈ l, ∃ y, DataW.trod enc P w base spare held fuel f.type ((cs.drop f.offset).take (P.cellsOf f.type)) = some y) → off + ts.length = cs.length →
          ∃ z : HL E.toTys ts, RVL (Rep (XR E) w fun b => b < w.heap.size) ts z (cs.drop off) ∧ ∀ d, goodL (good E d) ts z := by
        intro l
        induction l with
        | nil =>
          intro off ts hc _ hlen
          cases ts with
          | nil => exact ⟨(), List.drop_eq_nil_of_le (by simp at hlen; omega), fun d => trivial⟩
          | cons => cases hc
        | cons f l ihl =>
          intro off ts hc hf hlen
          simp only [chkFl, Bool.and_eq_true] at hc
          obtain ⟨ho, hc⟩ := hc
          have ho := Nat.eq_of_beq_eq_true ho
          split at hc
          · rename_i fty hft
            simp only [Bool.and_eq_true, Bool.not_eq_true'] at hc
            obtain ⟨hna, hc⟩ := hc
            split at hc
            · rename_i r hr
              have hts := pre_some hr
              subst hts
              obtain ⟨y, hy⟩ := hf f (by simp)
              rw [ho, cell hft] at hy
              obtain ⟨av, a1, a2⟩ := ih hft hna hy
              have hszl : sz E fty = (flatTys E fty).length := by
                cases fty <;> first | rfl | (simp [sz, flatTys, len_eq]; done) | cases hna
              rw [len_eq] at hc
              rw [List.length_append] at hlen
              obtain ⟨z2, b1, b2⟩ := ihl _ _ hc (fun g hg => hf g (by simp [hg])) (by omega)
              have hone : ∃ z1 : HL E.toTys (flatTys E fty), RVL (Rep (XR E) w fun b => b < w.heap.size) (flatTys E fty) z1 ((cs.drop off).take (sz E fty)) ∧ ∀ d, goodL (good E d) (flatTys E fty) z1 := by
                have single : (∀ n, fty ≠ .st n) → flatTys E fty = [fty] → ∃ z1 : HL E.toTys [fty], RVL (Rep (XR E) w fun b => b < w.heap.size) [fty] z1 ((cs.drop off).take (sz E fty)) ∧ ∀ d, goodL (good E d) [fty] z1 := by
                  intro hns hfl1
                  obtain ⟨dd, hdd⟩ := a1
                  obtain ⟨v, hv, h1v⟩ := RVt.cells hns (by rintro n u rfl; cases hna) hdd
                  rw [hv] at hdd ⊢
                  exact ⟨(av, ()), ⟨v, [], rfl, h1v, ⟨dd, hdd⟩, rfl⟩, fun d => a2 d⟩
                cases fty with
                | st m => exact ⟨E.to m av, Rep.st.1 a1, fun d => a2 (d + 1)⟩
                | arr => cases hna
                | ext => cases hna
                | fnv => cases hna
                | em => cases hna
                | any => cases hna
                | ptr => cases hna
                | _ => exact single (by intro n h; cases h) rfl
              obtain ⟨z1, c1, c2⟩ := hone
              obtain ⟨z, d1, d2⟩ := rvl_app c1 b1 c2 b2
              refine ⟨z, ?_, d2⟩
              rw [hszl, ← List.drop_drop, List.take_append_drop] at d1
              exact d1
            · cases hc
          · cases hc
      obtain ⟨z, z1, z2⟩ := key fs.toList 0 (E.fs n) hfl (fun f hf => by
        obtain ⟨i, hi, rfl⟩ := List.mem_iff_getElem.1 hf
        have h1 := hall i fs.toList[i] (by simp at hi ⊢)
        have hi' : i < xs.length := by rw [hxl]; simpa using hi
        exact ⟨xs[i], by rw [h1, List.getElem?_eq_getElem hi']⟩) (by rw [hcl]; simp [sz, len_eq])
      refine ⟨E.of n z, Rep.st.2 (by rw [E.to_of]; simpa using z1), fun d => ?_⟩
      cases d with
      | zero => trivial
      | succ d =>
        show goodL _ _ (E.to n (E.of n z))
        rw [E.to_of]
        exact z2 d
    | arr n u => cases hty
    | ext n t => cases hty
    | fnv n => cases hty
    | em => cases hty
    | any => cases hty
theorem reads_arr {H : Type} {enc : TypeId × Value → H} {w : World} {base : Nat} {spare : Nat → Bool} {held : Bool} {fuel t n : Nat} {u : Ty} {cs : List Value} {x : DataW H × List MemPlace} (ht : lk t tb.tys = some (.arr n u)) (hu : isArr1 u = false) (h : DataW.trod enc P w base spare held fuel t cs = some x) :
    ∃ a : den E.toTys (.arr n u), Rep (XR E) w (fun b => b < w.heap.size) (.arr n u) a cs ∧ ∀ d, good E d (.arr n u) a := by
  have T := hT (fun _ => none)
  have cell : ∀ {e : Nat} {u : Ty}, lk e tb.tys = some u → P.cellsOf e = sz E u := by
    intro e u he
    obtain ⟨i, z, h1, _, h3, _⟩ := T.info e u he
    simp [Program.cellsOf, h1, h3]
  obtain ⟨d, hd1, hd2⟩ := T.desc t _ ht
  cases d <;> simp only at hd2
  obtain ⟨rfl, he⟩ := hd2
  have he : lk _ tb.tys = some u := he
  obtain ⟨xs, m, hfu, _, hcl, hxl, hall⟩ := DataW.trod_array hd1 h
  have hce := cell he
  rw [cell ht] at hcl
  rw [hce] at hall
  have hex : ∀ i, i < n → ∃ y : den E.toTys u, Rep (XR E) w (fun b => b < w.heap.size) u y ((cs.drop (i * sz E u)).take (sz E u)) ∧ ∀ d, good E d u y := by
    intro i hi
    have h1 := hall i hi
    rw [List.getElem?_eq_getElem (by omega)] at h1
    exact reads hT hS m he hu h1
  have hlen : (List.ofFn (fun i : Fin n => Classical.choose (hex i.1 i.2))).length = n := List.length_ofFn
  refine ⟨List.ofFn (fun i : Fin n => Classical.choose (hex i.1 i.2)), Rep.arr.2 ⟨hlen, hcl, fun j p hp => ?_⟩, fun d => ⟨hlen, fun y hy => ?_⟩⟩
  · have hp : (List.ofFn (fun i : Fin n => Classical.choose (hex i.1 i.2)))[j]? = some p := hp
    obtain ⟨hj, hpj⟩ := List.getElem?_eq_some_iff.1 hp
    rw [List.length_ofFn] at hj
    rw [List.getElem_ofFn] at hpj
    rw [← hpj]
    exact (Classical.choose_spec (hex j hj)).1
  · obtain ⟨i, rfl⟩ := List.mem_ofFn.1 hy
    exact (Classical.choose_spec (hex i.1 i.2)).2 d
/-- An argument of a law. -/
theorem arg_ok {H : Type} {enc : TypeId × Value → H} {W : World} {base base' : Nat} {spare : Nat → Bool} {held : Bool} {t : Nat} {ty : Ty} {v : Value} {dd : DataW H} {ps : List MemPlace} {r : Reach} (ht : lk t tb.tys = some ty) (hty : isArrA ty = false)
    (hv : Value.okWide P W r base' t v) (h : DataW.Trod enc P W base spare held t v dd ps) : ∃ (x : den E.toTys ty) (cs : List Value), v = vOf ty cs ∧ Rep (XR E) W (fun b => b < W.heap.size) ty x cs ∧ ∀ d, good E d ty x := by
  obtain ⟨fuel, hf⟩ := h
  have hr : ∃ a : den E.toTys ty, Rep (XR E) W (fun b => b < W.heap.size) ty a v.cells.toList ∧ ∀ d, good E d ty a := by
    cases ty with
    | arr n u => exact reads_arr hT hS ht hty hf
    | _ => exact reads hT hS fuel ht hty hf
  obtain ⟨x, h1, h2⟩ := hr
  refine ⟨x, v.cells.toList, ?_, h1, h2⟩
  obtain ⟨d, hd1, hd2⟩ := (hT fun _ => none).desc t ty ht
  cases ty with
  | int k => cases d <;> simp only at hd2; obtain ⟨n, rfl⟩ := okWide_int hd1 hv; rfl
  | bool => cases d <;> simp only at hd2; obtain ⟨n, rfl⟩ := okWide_bool hd1 hv; rfl
  | slice u => cases d <;> simp only at hd2; obtain ⟨A, len, cap, rfl⟩ := okWide_slice hd1 hv; rfl
  | st n => cases d <;> simp only at hd2; obtain ⟨cs, rfl, _⟩ := okWide_struct hd1 hv; simp [vOf, Value.cells]
  | ptr u => cases hty
  | arr n u =>
    cases d <;> simp only at hd2
    simp only [Value.okWide, hd1] at hv
    obtain ⟨cs, rfl, _⟩ := hv
    simp [vOf, Value.cells]
  | ext n t => cases hty
  | fnv n => cases hty
  | em => cases hty
  | any => cases hty
omit hT hS
theorem ret_bool {X : XRep E} {w w' : World} {okA : Nat → Prop} {b : Bool} {e : Ending} (h : RetOK X w okA [(false, .bool)] b e w') : e = .returned (.bool b) ∧ Below w.heap.size w w' := by
  obtain ⟨us, os, rfl, hb, ⟨v, o, rfl, rfl, _, cs, h1, rfl⟩, _⟩ := h
  rw [Rep.bool.1 h1]
  exact ⟨rfl, hb⟩
end
end Go.Proofs.Ytlamlgfngpmhgaa.V.B

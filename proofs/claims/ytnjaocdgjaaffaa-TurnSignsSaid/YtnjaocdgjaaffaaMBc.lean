/- Own text: merged by pack2.py. -/
import Derived.Deep.Slices
import Derived.OpenShut
import Derived.ProofKit
import Derived.WideShapes
import Derived.Test.YtnjaocdgjaaffaaMBa
import Derived.Test.YtnjaocdgjaaffaaMBb
set_option linter.unusedSimpArgs false
set_option linter.unusedVariables false
namespace Go.Proofs.Ytnjaocdgjaaffaa.V.B
open Go.ChangeShapes Go.WideShapes Go.ChangeAt Go.RowKit Go.Deep
set_option linter.unusedVariables false
set_option linter.unusedSimpArgs false
def goodT (E : Env) (G : (n : Nat) → E.S n → Prop) : (t : Ty) → den E.toTys t → Prop
  | .int k, n => (Lit.int k n).wf = true
  | .bool, _ => True
  | .slice t, l => (∀ x ∈ (l : List (den E.toTys t)), goodT E G t x) ∧ List.length l ≤ maxLen
  | .ptr t, o => match o with
    | none => True
    | some x => goodT E G t x
  | .st n, x => G n x
  | .arr _ t, l => ∀ x ∈ (l : List (den E.toTys t)), goodT E G t x
  | .ext _ _, _ => True
  | .fnv _, _ => True
def goodL {T : Tys} (Q : (t : Ty) → den T t → Prop) : (ts : List Ty) → HL T ts → Prop
  | [], _ => True
  | [t], x => Q t x.1
  | t :: u :: ts, x => Q t x.1 ∧ goodL Q (u :: ts) x.2
def goodS (E : Env) : Nat → (n : Nat) → E.S n → Prop
  | 0, _, _ => True
  | d + 1, n, x => goodL (goodT E (goodS E d)) (E.fs n) (E.to n x)
/-- Numbers in range, lists of a length that there is. -/
def good (E : Env) (d : Nat) (t : Ty) (x : den E.toTys t) : Prop := goodT E (goodS E d) t x
theorem goodL_cons {T : Tys} {Q : (t : Ty) → den T t → Prop} {t : Ty} {ts : List Ty} {x : HL T (t :: ts)} : goodL Q (t :: ts) x ↔ Q t x.1 ∧ goodL Q ts x.2 := by
  cases ts with
  | nil => exact ⟨fun h => ⟨h, trivial⟩, fun h => h.1⟩
  | cons u ts => exact Iff.rfl
def flatTys (E : Env) : Ty → List Ty
  | .st n => E.fs n
  | t => [t]
def pre : List Ty → List Ty → Option (List Ty)
  | [], l => some l
  | t :: ts, u :: us => if t = u then pre ts us else none
  | _, _ => none
theorem pre_some : ∀ {a b c : List Ty}, pre a b = some c → b = a ++ c
  | [], b, c, h => by cases h; rfl
  | t :: ts, u :: us, c, h => by
    simp only [pre] at h
    split at h
    · rename_i e
      rw [e, pre_some h]; rfl
    · cases h
  | _ :: _, [], _, h => by cases h
def isArr1 : Ty → Bool
  | .arr _ _ => true
  | .ext _ _ => true
  | .fnv _ => true
  | .slice t => isArr1 t
  | .ptr _ => true
  | _ => false
def chkFl (E : Env) (P : Program) (tb : Tab) : List Field → Nat → List Ty → Bool
  | [], _, [] => true
  | f :: fs, off, ts => Nat.beq f.offset off && match lk f.type tb.tys with
    | some ty => !isArr1 ty && match pre (flatTys E ty) ts with
      | some r => chkFl E P tb fs (off + len (flatTys E ty)) r
      | none => false
    | none => false
  | _, _, _ => false
def chkSt (E : Env) (P : Program) (tb : Tab) : List (Nat × Ty) → Bool
  | [] => true
  | (t, .st n) :: r => (match P.underlying t with
    | some (.struct fs) => chkFl E P tb fs.toList 0 (E.fs n)
    | _ => false) && chkSt E P tb r
  | _ :: r => chkSt E P tb r
section
variable {E : Env} {P : Program} {tb : Tab}
theorem chkSt_spec {t n : Nat} : ∀ {l : List (Nat × Ty)}, chkSt E P tb l = true → lk t l = some (.st n) → ∃ fs, P.underlying t = some (.struct fs) ∧ chkFl E P tb fs.toList 0 (E.fs n) = true
  | [], _, h => by cases h
  | (u, ty) :: l, h1, h => by
    simp only [lk] at h
    split at h
    · rename_i e
      cases h
      have e := Nat.eq_of_beq_eq_true e
      subst e
      simp only [chkSt, Bool.and_eq_true] at h1
      have h1 := h1.1
      split at h1
      · exact ⟨_, by assumption, h1⟩
      · cases h1
    · refine chkSt_spec ?_ h
      cases ty <;> first | exact h1 | (simp only [chkSt, Bool.and_eq_true] at h1; exact h1.2)
theorem rvl_app {w : World} {ok : Nat → Prop} {X : XRep E} : ∀ {ts us : List Ty} {x : HL E.toTys ts} {y : HL E.toTys us} {cs ds : List Value}, RVL (Rep X w ok) ts x cs → RVL (Rep X w ok) us y ds → (∀ d, goodL (good E d) ts x) → (∀ d, goodL (good E d) us y) →
    ∃ z : HL E.toTys (ts ++ us), RVL (Rep X w ok) (ts ++ us) z (cs ++ ds) ∧ ∀ d, goodL (good E d) (ts ++ us) z
  | [], us, x, y, cs, ds, h1, h2, g1, g2 => by cases h1; exact ⟨y, h2, g2⟩
  | t :: ts, us, x, y, cs, ds, ⟨v, r, e, a1, a2, a3⟩, h2, g1, g2 => by
    obtain ⟨z, z1, z2⟩ := rvl_app a3 h2 (fun d => (goodL_cons.1 (g1 d)).2) g2
    subst e
    exact ⟨(x.1, z), ⟨v, r ++ ds, rfl, a1, a2, z1⟩, fun d => goodL_cons.2 ⟨(goodL_cons.1 (g1 d)).1, z2 d⟩⟩
variable (hT : ∀ calls, Tie (E := E) (XR E) P (tb.ctx calls)) (hS : chkSt E P tb tb.tys = true)
include hT hS
theorem reads {H : Type} {enc : TypeId × Value → H} {w : World} {base : Nat} {spare : Nat → Bool} {held : Bool} : ∀ (fuel : Nat) {t : Nat} {ty : Ty} {cs : List Value} {x : DataW H × List MemPlace}, lk t tb.tys = some ty → isArr1 ty = false → DataW.trod enc P w base spare held fuel t cs = some x →
    ∃ a : den E.toTys ty, Rep (XR E) w (fun b => b < w.heap.size) ty a cs ∧ ∀ d, good E d ty a := by
  have T := hT (fun _ => none)
  intro fuel
  induction fuel with
  | zero => intro t ty cs x ht hty h; simp [DataW.trod] at h
  | succ fuel ih =>
    intro t ty cs x ht hty h
    obtain ⟨d, hd1, hd2⟩ := T.desc t ty ht
    have cell : ∀ {e : Nat} {u : Ty}, lk e tb.tys = some u → P.cellsOf e = sz E u := by
      intro e u he
      obtain ⟨i, z, h1, _, h3, _⟩ := T.info e u he
      simp [Program.cellsOf, h1, h3]
    cases ty with
    | int k =>
      cases d <;> simp only at hd2
      subst hd2
      obtain ⟨n, rfl, _, hw⟩ := DataW.trod_int hd1 h
      exact ⟨n, Rep.int.2 rfl, fun d => hw⟩
    | bool =>
      cases d <;> simp only at hd2
      obtain ⟨n, rfl, _⟩ := DataW.trod_bool hd1 h
      exact ⟨n, Rep.bool.2 rfl, fun d => trivial⟩
    | slice u =>
      cases d <;> simp only at hd2
      rename_i e
      obtain ⟨he, _⟩ := hd2
      have he : lk e tb.tys = some u := he
      obtain ⟨i0, z0, p1, p2, p3, p4, p5, p6⟩ := T.info e u he
      have hce := cell he
      rcases DataW.trod_slice hd1 h with ⟨rfl, _⟩ | ⟨a, ln, cap, elems, rest, n, hfu, rfl, rfl, hb, hl, hm, hlen, hel, _⟩
      · exact ⟨([] : List (den E.toTys u)), Rep.slice.2 ⟨none, 0, rfl, Nat.le_refl _, fun h => absurd rfl h⟩, fun d => ⟨fun x hx => absurd hx List.not_mem_nil, Nat.zero_le _⟩⟩
      · obtain rfl : fuel = n := by omega
        have hau : isArr1 u = false := hty
        have hex : ∀ i, i < ln → ∃ y : den E.toTys u, ∃ c, Rep (XR E) w (fun b => b < w.heap.size) u y c ∧ (∀ d, good E d u y) ∧ c.length = sz E u ∧ ∀ j v, c[j]? = some v → w.cell? ((a.add (i * sz E u)).add j) = some v := by
          intro i hi
          have := hel i hi
          rw [hce] at this
          have hi' : i < elems.length := by omega
          rw [List.getElem?_eq_getElem hi'] at this
          cases hc : w.cells? base (a.add (i * sz E u)) (sz E u) with
          | none => rw [hc] at this; cases this
          | some c =>
            rw [hc] at this
            simp only [Option.bind_some] at this
            obtain ⟨_, g2, g3⟩ := World.cells?_some hc
            obtain ⟨y, y1, y2⟩ := ih he hau this
            exact ⟨y, c, y1, y2, g2, fun j v hv => by rw [g3 j (by rw [← g2]; exact (List.getElem?_eq_some_iff.1 hv).1)]; exact hv⟩
        have hlen2 : (List.ofFn (fun i : Fin ln => Classical.choose (hex i.1 i.2))).length = ln := List.length_ofFn
        refine ⟨List.ofFn (fun i : Fin ln => Classical.choose (hex i.1 i.2)), Rep.slice.2 ⟨some a, cap, by rw [hlen2], by rw [hlen2]; exact hl, fun hne => ?_⟩, fun d => ⟨fun y hy => ?_, by rw [hlen2]; omega⟩⟩
        · have hpos : 0 < ln := by
            rcases Nat.eq_zero_or_pos ln with h | h
            · subst h; exact absurd (by simp) hne
            · exact h
          obtain ⟨y0, c0, _, _, l0, k0⟩ := hex 0 hpos
          have hc0 : ∃ v, c0[0]? = some v := ⟨c0[0]'(by omega), List.getElem?_eq_getElem _⟩
          obtain ⟨v0, hv0⟩ := hc0
          have hc := k0 0 v0 hv0
          have hadd0 : (a.add (0 * sz E u)).add 0 = a := by simp [Addr.add]
          rw [hadd0] at hc
          have hsp := World.cell?_spot hc
          obtain ⟨b, o, s⟩ := a
          simp only at hsp
          subst hsp
          refine ⟨b, o, rfl, ?_, fun j p hp => ?_⟩
          · unfold World.cell? at hc
            split at hc
            · rename_i hh
              exact (Array.getElem?_eq_some_iff.1 hh).1
            · cases hc
          · obtain ⟨hj, hpj⟩ := List.getElem?_eq_some_iff.1 hp
            rw [List.length_ofFn] at hj
            rw [List.getElem_ofFn] at hpj
            obtain ⟨c, h1, _, h3, h4⟩ := Classical.choose_spec (hex j hj)
            refine ⟨c, by rw [← hpj]; exact h1, fun q v hq => ?_⟩
            have := h4 q v hq
            have e : ((⟨b, o, none⟩ : Addr).add (j * sz E u)).add q = ⟨b, o + j * sz E u + q, none⟩ := by
              unfold Addr.add
              split <;> split <;> simp_all
            rw [e] at this
            exact this
        · obtain ⟨i, rfl⟩ := List.mem_ofFn.1 hy
          obtain ⟨c, _, h2, _⟩ := Classical.choose_spec (hex i.1 i.2)
          exact h2 d
    | ptr u => cases hty
    | st n =>
      obtain ⟨fs, hfs, hfl⟩ := chkSt_spec hS ht
      obtain ⟨xs, m, hfu, _, hcl, hxl, hall⟩ := DataW.trod_struct hfs h
      obtain rfl : fuel = m := by omega
      rw [cell ht] at hcl
      have key : ∀ (l : List Field) (off : Nat) (ts : List Ty), chkFl E P tb l off ts = true → (∀ f ∈ l, ∃ y, DataW.trod enc P w base spare held fuel f.type ((cs.drop f.offset).take (P.cellsOf f.type)) = some y) → off + ts.length = cs.length →
          ∃ z : HL E.toTys ts, RVL (Rep (XR E) w fun b => b < w.heap.size) ts z (cs.drop off) ∧ ∀ d, goodL (good E d) ts z := by
        intro l
        induction l with
        | nil =>
          intro off ts hc _ hlen
          cases ts with
          | nil => exact ⟨(), List.drop_eq_nil_of_le (by simp at hlen; omega), fun d => trivial⟩
          | cons => cases hc
        | cons f l ihl =>
          intro off ts hc hf hlen
          simp only [chkFl, Bool.and_eq_true] at hc
          obtain ⟨ho, hc⟩ := hc
          have ho := Nat.eq_of_beq_eq_true ho
          split at hc
          · rename_i fty hft
            simp only [Bool.and_eq_true, Bool.not_eq_true'] at hc
            obtain ⟨hna, hc⟩ := hc
            split at hc
            · rename_i r hr
              have hts := pre_some hr
              subst hts
              obtain ⟨y, hy⟩ := hf f (by simp)
              rw [ho, cell hft] at hy
              obtain ⟨av, a1, a2⟩ := ih hft hna hy
              have hszl : sz E fty = (flatTys E fty).length := by
                cases fty <;> first | rfl | (simp [sz, flatTys, len_eq]; done) | cases hna
              rw [len_eq] at hc
              rw [List.length_append] at hlen
              obtain ⟨z2, b1, b2⟩ := ihl _ _ hc (fun g hg => hf g (by simp [hg])) (by omega)
              have hone : ∃ z1 : HL E.toTys (flatTys E fty), RVL (Rep (XR E) w fun b => b < w.heap.size) (flatTys E fty) z1 ((cs.drop off).take (sz E fty)) ∧ ∀ d, goodL (good E d) (flatTys E fty) z1 := by
                have single : (∀ n, fty ≠ .st n) → flatTys E fty = [fty] → ∃ z1 : HL E.toTys [fty], RVL (Rep (XR E) w fun b => b < w.heap.size) [fty] z1 ((cs.drop off).take (sz E fty)) ∧ ∀ d, goodL (good E d) [fty] z1 := by
                  intro hns hfl1
                  obtain ⟨dd, hdd⟩ := a1
                  obtain ⟨v, hv, h1v⟩ := RVt.cells hns (by rintro n u rfl; cases hna) hdd
                  rw [hv] at hdd ⊢
                  exact ⟨(av, ()), ⟨v, [], rfl, h1v, ⟨dd, hdd⟩, rfl⟩, fun d => a2 d⟩
                cases fty with
                | st m => exact ⟨E.to m av, Rep.st.1 a1, fun d => a2 (d + 1)⟩
                | arr => cases hna
                | ext => cases hna
                | fnv => cases hna
                | ptr => cases hna
                | _ => exact single (by intro n h; cases h) rfl
              obtain ⟨z1, c1, c2⟩ := hone
              obtain ⟨z, d1, d2⟩ := rvl_app c1 b1 c2 b2
              refine ⟨z, ?_, d2⟩
              rw [hszl, ← List.drop_drop, List.take_append_drop] at d1
              exact d1
            · cases hc
          · cases hc
      obtain ⟨z, z1, z2⟩ := key fs.toList 0 (E.fs n) hfl (fun f hf => by
        obtain ⟨i, hi, rfl⟩ := List.mem_iff_getElem.1 hf
        have h1 := hall i fs.toList[i] (by simp at hi ⊢)
        have hi' : i < xs.length := by rw [hxl]; simpa using hi
        exact ⟨xs[i], by rw [h1, List.getElem?_eq_getElem hi']⟩) (by rw [hcl]; simp [sz, len_eq])
      refine ⟨E.of n z, Rep.st.2 (by rw [E.to_of]; simpa using z1), fun d => ?_⟩
      cases d with
      | zero => trivial
      | succ d =>
        show goodL _ _ (E.to n (E.of n z))
        rw [E.to_of]
        exact z2 d
    | arr n u => cases hty
    | ext n t => cases hty
    | fnv n => cases hty
/-- An argument of a law. -/
theorem arg_ok {H : Type} {enc : TypeId × Value → H} {W : World} {base base' : Nat} {spare : Nat → Bool} {held : Bool} {t : Nat} {ty : Ty} {v : Value} {dd : DataW H} {ps : List MemPlace} {r : Reach} (ht : lk t tb.tys = some ty) (hty : isArr1 ty = false)
    (hv : Value.okWide P W r base' t v) (h : DataW.Trod enc P W base spare held t v dd ps) : ∃ (x : den E.toTys ty) (cs : List Value), v = vOf ty cs ∧ Rep (XR E) W (fun b => b < W.heap.size) ty x cs ∧ ∀ d, good E d ty x := by
  obtain ⟨fuel, hf⟩ := h
  obtain ⟨x, h1, h2⟩ := reads hT hS fuel ht hty hf
  refine ⟨x, v.cells.toList, ?_, h1, h2⟩
  obtain ⟨d, hd1, hd2⟩ := (hT fun _ => none).desc t ty ht
  cases ty with
  | int k => cases d <;> simp only at hd2; obtain ⟨n, rfl⟩ := okWide_int hd1 hv; rfl
  | bool => cases d <;> simp only at hd2; obtain ⟨n, rfl⟩ := okWide_bool hd1 hv; rfl
  | slice u => cases d <;> simp only at hd2; obtain ⟨A, len, cap, rfl⟩ := okWide_slice hd1 hv; rfl
  | st n => cases d <;> simp only at hd2; obtain ⟨cs, rfl, _⟩ := okWide_struct hd1 hv; simp [vOf, Value.cells]
  | ptr u => cases hty
  | arr n u => cases hty
  | ext n t => cases hty
  | fnv n => cases hty
omit hT hS
theorem ret_bool {X : XRep E} {w w' : World} {okA : Nat → Prop} {b : Bool} {e : Ending} (h : RetOK X w okA [(false, .bool)] b e w') : e = .returned (.bool b) ∧ Below w.heap.size w w' := by
  obtain ⟨us, os, rfl, hb, ⟨v, o, rfl, rfl, _, cs, h1, rfl⟩, _⟩ := h
  rw [Rep.bool.1 h1]
  exact ⟨rfl, hb⟩
end
end Go.Proofs.Ytnjaocdgjaaffaa.V.B

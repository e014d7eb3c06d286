/- The law CodeBack. Own text. -/
import Derived.Test.YtbapldgapbmdkaaGreatRows
import Derived.WalkKit
import Derived.ProofKit
import Derived.OpenShut
import Derived.ShutString
import Derived.ChangeOld
import Derived.Below
import Derived.SizedLaws
import Derived.Carry
import Derived.Test.YtbapldgapbmdkaaGreatMBa
import Derived.Test.YtbapldgapbmdkaaGreatMBb
import Derived.Test.YtbapldgapbmdkaaGreatMBc
import Derived.Test.YtbapldgapbmdkaaGreatMFa
import Derived.Test.YtbapldgapbmdkaaGreatMCodeBacka
set_option linter.unusedSimpArgs false
set_option linter.unusedVariables false
namespace Go.Proofs.YtbapldgapbmdkaaGreat.Pure
open Go.Proofs.YtbapldgapbmdkaaGreat.V.B Go.RowKit Go.Proofs.YtbapldgapbmdkaaGreat.B Go.Proofs.YtbapldgapbmdkaaGreat.V.B.Ar Go.Proofs.YtbapldgapbmdkaaGreat.V.B.Tw Sp
set_option linter.unusedVariables false
def plcs (n : Nat) : List Int := (List.range n).map fun i : Nat => (i : Int)
theorem plcs_length (n : Nat) : (plcs n).length = n := by unfold plcs; rw [List.length_map, List.length_range]
theorem plcs_get {n i : Nat} (h : i < n) : (plcs n).getD i 0 = (i : Int) := by
  unfold plcs
  rw [List.getD_eq_getElem?_getD, List.getElem?_map, List.getElem?_range h]; rfl
theorem plcs_succ (n : Nat) : plcs (n + 1) = plcs n ++ [(n : Int)] := by unfold plcs; rw [List.range_succ, List.map_append]; rfl
theorem CodeBack : Stated.codeBack.Pure := by
  rintro ⟨L, a, r⟩ CS _ ⟨hCS, _⟩
  obtain ⟨V, rfl⟩ := list_of CS hCS
  refine Ev.rounds (g := fun k => steeplelaw08_CodeBack.f k ⟨L, a, r⟩ (V.map toS)) ?_
  unfold steeplelaw08_CodeBack.f
  rcases Shape_ev L a r with ⟨l, K, R, rfl, rfl, rfl, h, h5, hm⟩ | hm
  · have hp := h.pow
    have h10 := h.ten
    have ew : wrap64 ((K : Int) + (R : Int)) = ((K + R : Nat) : Int) := w64_add (by omega) (by omega)
    refine Ev.bnd hm ?_
    rw [List.length_map]
    show Ev (fun k => if (V.length : Int) > 40 then _ else (code_Code_Decode.f k (some (cdS l K R)) (V.map toS)).bind fun r3 => (steeplelaw01_Ref.f k (V.map toS)).bind fun r4 => (steepleref08_Two.f k (wrap64 ((K : Int) + (R : Int)))).bind fun r5 => _) true
    by_cases c : (V.length : Int) > 40
    · exact Ev.pos c (Ev.bnd awake8_ev (Ev.ret _))
    refine Ev.neg c ?_
    rw [ew]
    have hmay := refMay_ev (l : Int) V (by omega) ((2 ^ (K + R) : Nat) : Int)
    by_cases d : askE l V ((2 ^ (K + R) : Nat) : Int) = 0
    · obtain ⟨hV, aV⟩ := askE_zero d
      have e : (if (V.length : Int) = ((2 ^ (K + R) : Nat) : Int) then if AllS (l : Int) V then (0 : Int) else 5 else 6) = 0 := d
      rw [e] at hmay
      have hd := Decode_fit h hV aV
      have hbl := bkL_length (plB (K + R)) 0 (K + R) V
      by_cases g : dgI (bkL (plB (K + R)) 0 (K + R) V) (2 ^ (K + R)) ≥ ((2 ^ K : Nat) : Int)
      · rw [if_pos g] at hd
        refine Ev.bnd hd (Ev.bnd (Ref_ev V (by omega)) (Ev.bnd (Two8_ev (K + R) (by omega)) (Ev.bnd hmay (Ev.pos rfl (Ev.neg (show ¬ ((7 : Int) = 0) by decide) ?_)))))
        have vT : (V.take (2 ^ K)).length = 2 ^ K := by rw [List.length_take]; omega
        have aT : AllS (l : Int) (V.take (2 ^ K)) := fun x hx => aV x (List.mem_of_mem_take hx)
        obtain ⟨D, d1, d2, d3, d4⟩ := Fill_fit h h5 (P := plcs (2 ^ K)) (plcs_length _) vT (fun i hi' => by
          rw [plcs_length] at hi'
          rw [plcs_get hi']
          unfold inW
          omega) (fun i j h1 h2 => by
          rw [plcs_length] at h2
          rw [plcs_get (by omega), plcs_get h2]
          omega) aT
        have hap : apN (wdL K R D) V > 0 := by
          apply Nat.pos_of_ne_zero
          intro h0
          have hv := apN_zero (by rw [wdL_length, hV]) h0
          have hb := bk_wd h d1
          rw [hv] at hb
          rw [hb] at g
          refine pad_deg (C := D) (N := 2 ^ (K + R)) (by omega) ?_
          rw [d1]
          exact g
        have h0 : ([] : List Int) = plcs 0 := rfl
        have fL : ((2 ^ K : Nat) : Int) ≤ ((V.map toS).length : Int) := by rw [List.length_map, hV]; omega
        have fA : ∀ i, i < 2 ^ K → (plcs i).length + [(i : Int)].length ≤ 140737488355328 / 8 := fun i hi' => by rw [plcs_length, List.length_singleton]; omega
        rw [h0]
        refine Ev.down (g := fun i k => steeplelaw08_CodeBack.l12 k (V.map toS) (some (cdS l K R)) 7 (i : Int) [] (plcs i)) (n := 2 ^ K) ?_ fun i hil hih => ?_
        · refine Ev.step (fun k => by rw [steeplelaw08_CodeBack.l12]) (Ev.bnd (Size_ev h) (Ev.neg (Int.lt_irrefl _) (Ev.bnd (Size_ev h) (Ev.pos (Int.natCast_nonneg _) (Ev.pos fL ?_)))))
          rw [Int.toNat_natCast, ← List.map_take]
          exact Ev.bnd d4 (Ev.bnd (Encode_fit h d1 d2) (Ev.bnd awake8_ev (Ev.pos rfl (Ev.pos rfl (Ev.pos rfl (Ev.pos rfl (Ev.pos rfl (Ev.bnd (apart_ev (wdL K R D) V (by rw [wdL_length]; omega) (by omega)) (Ev.ret' (decide_eq_true (by omega)))))))))))
        · have f0 : (i : Int) < ((2 ^ K : Nat) : Int) := by omega
          rw [plcs_succ] at hih
          refine Ev.step (fun k => by rw [steeplelaw08_CodeBack.l12]) (Ev.bnd (Size_ev h) (Ev.pos f0 (Ev.pos (fA i hil) ?_)))
          rw [w64_succ hil (by omega)]
          exact hih
      · rw [if_neg g] at hd
        have hM : ((bkL (plB (K + R)) 0 (K + R) V).take (2 ^ K)).length = 2 ^ K := by rw [List.length_take, hbl]; omega
        have hz := (dgI_low (C := bkL (plB (K + R)) 0 (K + R) V) hp.1).1 (by omega)
        have hpad : padL ((bkL (plB (K + R)) 0 (K + R) V).take (2 ^ K)) (2 ^ (K + R)) = bkL (plB (K + R)) 0 (K + R) V := by
          refine ext_getD (by rw [padL_length (by omega), hbl]) fun i hi' => ?_
          rw [padL_length (by omega)] at hi'
          by_cases ci : i < 2 ^ K
          · rw [padL_get (by omega), List.getD_eq_getElem?_getD, List.getElem?_take, if_pos ci, ← List.getD_eq_getElem?_getD]
          · rw [padL_zero (by omega), hz i (by omega) hi']
        have hw : wdL K R ((bkL (plB (K + R)) 0 (K + R) V).take (2 ^ K)) = V := by
          unfold wdL
          rw [hpad]
          exact fw_bk _ _ hV
        refine Ev.bnd hd (Ev.bnd (Ref_ev V (by omega)) (Ev.bnd (Two8_ev (K + R) (by omega)) (Ev.bnd hmay (Ev.pos rfl (Ev.pos rfl (Ev.bnd awake8_ev (Ev.pos rfl (Ev.bnd (Size_ev h) (Ev.pos (by rw [List.length_map]; omega) (Ev.bnd (Ref_ev _ (by omega)) ?_))))))))))
        have hrw := refWord_ev h hM
        rw [hw] at hrw
        exact Ev.bnd hrw (Ev.bnd (same_self V (by omega)) (Ev.ret _))
    · have e : (if (V.length : Int) = ((2 ^ (K + R) : Nat) : Int) then if AllS (l : Int) V then (0 : Int) else 5 else 6) = askE l V ((2 ^ (K + R) : Nat) : Int) := rfl
      rw [e] at hmay
      exact Ev.bnd (Decode_no h (by omega) d) (Ev.bnd (Ref_ev V (by omega)) (Ev.bnd (Two8_ev (K + R) (by omega)) (Ev.bnd hmay (Ev.neg d (Ev.bnd awake8_ev (Ev.pos rfl (Ev.pos rfl (Ev.ret' (decide_eq_true rfl)))))))))
  · exact Ev.bnd hm (Ev.bnd awake8_ev (Ev.ret _))
end Go.Proofs.YtbapldgapbmdkaaGreat.Pure
namespace Go.Proofs.YtbapldgapbmdkaaGreat.codeBack
open Go.Proofs.YtbapldgapbmdkaaGreat.V.B Go.ChangeShapes Go.WideShapes Go.ChangeAt Go.RowKit Go.Proofs.YtbapldgapbmdkaaGreat.B
set_option linter.unusedVariables false
set_option linter.unusedSimpArgs false
theorem own : ownKnob Tryz.prog.godebug = none := by kernel_rfl
theorem laidOut : laidOutB Tryz.prog = true := by kernel_rfl
def tab1 : Tab := ⟨[(3, .int .i64), (23, .st 0), (24, .slice (.st 1)), (45, .int .u64), (47, .st 1)], [], [(24, 16)], [], []⟩
theorem tab1_ok : tab1.chk E Tryz.prog = true := by kernel_rfl
theorem tie1 (calls : Nat → Option (Sig E.toTys)) : Tie (XR E) Tryz.prog (tab1.ctx calls) := tie_of zl_ok tab1_ok calls
theorem sts : chkSt E Tryz.prog tab1 tab1.tys = true := by kernel_rfl
set_option maxRecDepth 100000 in
theorem lifted (os : Os) (started : os.Started) (H : Type) (enc : TypeId × Value → H) :
    ReturnsInHanded {} Tryz.checked os 3 .any (Rows.codeBackSpec.pre6 enc Tryz.prog Tryz.f3 Rows.codeBackRow.domain false) (Rows.codeBackSpec.post enc Tryz.prog Tryz.f3 false true false false) := by
  refine returnsInHanded_of_change_sized (C := Tryz.checked) own started (by kernel_rfl) Tryz.func3
    (ChangeSpec.witness6 (enc := enc) (C := Tryz.checked) false ⟨#[], #[.agg #[.int .i64 0, .int .i64 0, .int .i64 0], .slice none 0 0], []⟩ 8 (by kernel_rfl) (by kernel_rfl) (by kernel_rfl) (by kernel_rfl)) ?_
  intro W base args ds gs before hval0 hW hcnd hsz0 _
  have hval : ∀ (j : Nat) t v, Tryz.f3.params[j]? = some t → args[j]? = some v → Value.okWide Tryz.prog W .any base t v := hval0
  have hW' := hW
  obtain ⟨p, q, hA0, hV, rfl, hfz, hnd⟩ := hW
  have hA : DataW.TrodAll enc Tryz.prog W 0 (fun _ => true) true Tryz.f3.params.toList args.toList ds p := hA0
  rw [Tryz.params3] at hA hval
  obtain ⟨v0, vs0, d0, ds0, p0, q0, hargs, rfl, rfl, h0, r0⟩ := trodAll_cons hA
  obtain ⟨v1, vs1, d1, ds1, p1, q1, rfl, rfl, rfl, h1, r1⟩ := trodAll_cons r0
  obtain ⟨rfl, rfl, rfl⟩ := trodAll_nil r1
  obtain rfl : args = #[v0, v1] := by cases args; simp_all
  obtain ⟨rfl, rfl⟩ := trodVars_none hV
  have k0 := h0
  have lt0 : ∀ x ∈ p0, x.block < W.heap.size := by obtain ⟨m, hm⟩ := k0; exact DataW.trod_lt m _ _ _ hm
  obtain ⟨x0, cs0, e0, R0, g0⟩ := arg_ok tie1 sts (t := 23) (ty := .st 0) rfl rfl (hval 0 23 v0 rfl rfl) h0
  have k1 := h1
  have lt1 : ∀ x ∈ p1, x.block < W.heap.size := by obtain ⟨m, hm⟩ := k1; exact DataW.trod_lt m _ _ _ hm
  obtain ⟨x1, cs1, e1, R1, g1⟩ := arg_ok tie1 sts (t := 24) (ty := .slice (.st 1)) rfl rfl (hval 1 24 v1 rfl rfl) h1
  clear hA0 hval0 hsz0
  obtain ⟨k, hpure⟩ := Pure.CodeBack x0 x1 (g0 4) (g1 4)
  refine ((steeplelaw08_CodeBack.ok k).1 (x0, (x1, ())) true hpure W (fun b => b < W.heap.size) [v0, v1] (fun b hb => hb) ⟨_, _, cs0, rfl, R0, e0, ⟨_, _, cs1, rfl, R1, e1, rfl⟩⟩).mono fun e W2 hh => ?_
  obtain ⟨rfl, bel⟩ := ret_bool hh
  exact ⟨_, rfl, _, _, _, [], _, [], hW', trodAll_mk1 (shut_bool Tryz.underlying4 _), (trodAll_cons_mk (Below.trod laidOut (by kernel_rfl) (of_decide_eq_true (by kernel_rfl)) k0 bel lt0) (trodAll_cons_mk (Below.trod laidOut (by kernel_rfl) (of_decide_eq_true (by kernel_rfl)) k1 bel lt1) trodAll_mk0)), rfl, bel.frame _, fun h => by cases h⟩
theorem over : Rows.codeBackRow.holds Tryz.pinned (OpenSpec.ofChange Rows.codeBackSpec) :=
  OpenClaim.holds_of_wide 3 Tryz.f3 rfl rfl rfl rfl rfl rfl rfl ⟨rfl, rfl, rfl, rfl, rfl⟩ rfl rfl rfl rfl rfl (by kernel_rfl) Tryz.func3 (by kernel_rfl)
    (of_decide_eq_true (by kernel_rfl)) (by unfold Func.isWrapper; first | (rw [if_pos (by decide +kernel)]; kernel_rfl) | (rw [if_neg (by decide +kernel)]; exact ⟨rfl, rfl⟩))
    (fun os started H enc _ => lifted os started H enc)
end Go.Proofs.YtbapldgapbmdkaaGreat.codeBack
namespace Go.Proofs.YtbapldgapbmdkaaGreat
/-- The law, for every input. -/
theorem codeBack_holds : Rows.CodeBackSaid := codeBack.over
#print axioms codeBack_holds
end Go.Proofs.YtbapldgapbmdkaaGreat

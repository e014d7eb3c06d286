-- Own text of this claim, written by wip/tools/gen.py (a program of this session's) over the kit's print.
import Derived.Test.YtngcaphdkgihmaaFx0
import Derived.Test.YtngcaphdkgihmaaFxsteepleref15Two
namespace Go.Proofs.Ytngcaphdkgihmaa.P
open Go.RowKit Go.Proofs.YtngcaphdkgihmaaW.PrintWords Go.Proofs.YtngcaphdkgihmaaW.PrintLast Go.Proofs.YtngcaphdkgihmaaW.PrintMore
attribute [local go_sem] max2_int min2_int max_two min_two max_three min_three max_four min_four   -- for this text's walks alone
set_option linter.unusedVariables false
set_option linter.unusedSimpArgs false

/-! ### steepleref18_Was: function 20 -/
def steepleref18_Was.f (k : Nat) (a0 : Int) (a1 : Int) (a2 : Int) (a3 : Int) (a4 : Int) : Option (Bool) := (steepleref15_Two.f k a1).bind fun t101 => (if a0 = 2 then (some (a4 == (wrap64 (a3 + a2)))) else (if a0 = 3 then (if t101 = 0 then (none) else (some ((Int.tmod (wrap64 (a4 + a2)) t101) == a3))) else (some (a3 == (wrap64 (a4 + a2))))))
theorem steepleref18_Was.mono : ∀ a0 a1 a2 a3 a4 k, LeO (steepleref18_Was.f k a0 a1 a2 a3 a4) (steepleref18_Was.f (k + 1) a0 a1 a2 a3 a4) := by
  intro a0 a1 a2 a3 a4 k
  unfold steepleref18_Was.f
  repeat' first
      | (with_reducible exact steepleref15_Two.mono _ _)
      | (with_reducible exact LeO.refl _)
      | (with_reducible exact LeO.none _)
      | (with_reducible refine LeO.ite ?_ ?_)
      | (with_reducible refine LeO.bind ?_ (fun _ => ?_))
      | exact steepleref15_Two.mono _ _
      | exact LeO.none _
      | refine LeO.ite ?_ ?_
      | refine LeO.bind ?_ (fun _ => ?_)
set_option maxHeartbeats 8000000 in
set_option maxRecDepth 100000 in
theorem steepleref18_Was.calls (k : Nat) (a0 : Int) (a1 : Int) (a2 : Int) (a3 : Int) (a4 : Int) (r : Bool) (w : World) (h : steepleref18_Was.f k a0 a1 a2 a3 a4 = some r) :
    Calls Try.prog 20 #[.int .i64 a0, .int .i64 a1, .int .i64 a2, .int .i64 a3, .int .i64 a4] w fun e w' => e = .returned (.bool r) ∧ Drawn0 w w' := by
  have H : ((steepleref15_Two.f k a1).bind fun t101 => (if a0 = 2 then (some (a4 == (wrap64 (a3 + a2)))) else (if a0 = 3 then (if t101 = 0 then (none) else (some ((Int.tmod (wrap64 (a4 + a2)) t101) == a3))) else (some (a3 == (wrap64 (a4 + a2))))))) = some r := h
  clear h
  replace H := Option.bind_eq_some_iff.mp H
  obtain ⟨t101, A60, H⟩ := H
  replace H : (if a0 = 2 then (some (a4 == (wrap64 (a3 + a2)))) else (if a0 = 3 then (if t101 = 0 then (none) else (some ((Int.tmod (wrap64 (a4 + a2)) t101) == a3))) else (some (a3 == (wrap64 (a4 + a2)))))) = some r := H
  have A6 := Aside0.mk A60
  clear A60
  by_cases c7 : a0 = 2
  · rw [if_pos c7] at H
    have c7b0 : (a0 == 2) = true := beq_iff_eq.mpr c7
    have c7b1 : (a0 != 2) = false := bne_eq_false_iff_eq.mpr c7
    clear c7
    obtain rfl := Option.some.inj H
    go_enter Try.func20, Try.ntmps20
    go_wp2_with (first | ((with_reducible refine gate_callee (f := 50) rfl ?_); refine goesL_ (some 13) rfl rfl Try.func50 (by kernel_rfl) rfl #[.int .i64 a1] rfl (by (try simp only [List.map_toArray, List.map_cons, List.map_nil]); first | done | rfl | (simp only [List.length_drop, List.length_take]; rfl)) ?_; (with_reducible refine (steepleref15_Two.calls k a1 t101 _ A6.out).mono ?_); rintro e w' ⟨rfl, ⟨nd, rfl⟩⟩; refine ⟨_, rfl, ?_⟩))
    go_ret
    exact ⟨by first | rfl | (simp; done) | (simp [*]; done), by repeat (first | exact Drawn0.refl _ | apply Drawn0.step)⟩
  · rw [if_neg c7] at H
    have c7b0 : (a0 == 2) = false := beq_eq_false_iff_ne.mpr c7
    have c7b1 : (a0 != 2) = true := bne_iff_ne.mpr c7
    by_cases c8 : a0 = 3
    · rw [if_pos c8] at H
      have c8b0 : (a0 == 3) = true := beq_iff_eq.mpr c8
      have c8b1 : (a0 != 3) = false := bne_eq_false_iff_eq.mpr c8
      clear c8
      by_cases c9 : t101 = 0
      · rw [if_pos c9] at H
        exact absurd H (by simp)
      · rw [if_neg c9] at H
        have c9b0 : (t101 == 0) = false := beq_eq_false_iff_ne.mpr c9
        have c9b1 : (t101 != 0) = true := bne_iff_ne.mpr c9
        obtain rfl := Option.some.inj H
        go_enter Try.func20, Try.ntmps20
        go_wp2_with (first | ((with_reducible refine gate_callee (f := 50) rfl ?_); refine goesL_ (some 13) rfl rfl Try.func50 (by kernel_rfl) rfl #[.int .i64 a1] rfl (by (try simp only [List.map_toArray, List.map_cons, List.map_nil]); first | done | rfl | (simp only [List.length_drop, List.length_take]; rfl)) ?_; (with_reducible refine (steepleref15_Two.calls k a1 t101 _ A6.out).mono ?_); rintro e w' ⟨rfl, ⟨nd, rfl⟩⟩; refine ⟨_, rfl, ?_⟩))
        go_ret
        exact ⟨by first | rfl | (simp; done) | (simp [*]; done), by repeat (first | exact Drawn0.refl _ | apply Drawn0.step)⟩
    · rw [if_neg c8] at H
      have c8b0 : (a0 == 3) = false := beq_eq_false_iff_ne.mpr c8
      have c8b1 : (a0 != 3) = true := bne_iff_ne.mpr c8
      obtain rfl := Option.some.inj H
      go_enter Try.func20, Try.ntmps20
      go_wp2_with (first | ((with_reducible refine gate_callee (f := 50) rfl ?_); refine goesL_ (some 13) rfl rfl Try.func50 (by kernel_rfl) rfl #[.int .i64 a1] rfl (by (try simp only [List.map_toArray, List.map_cons, List.map_nil]); first | done | rfl | (simp only [List.length_drop, List.length_take]; rfl)) ?_; (with_reducible refine (steepleref15_Two.calls k a1 t101 _ A6.out).mono ?_); rintro e w' ⟨rfl, ⟨nd, rfl⟩⟩; refine ⟨_, rfl, ?_⟩))
      go_ret
      exact ⟨by first | rfl | (simp; done) | (simp [*]; done), by repeat (first | exact Drawn0.refl _ | apply Drawn0.step)⟩

end Go.Proofs.Ytngcaphdkgihmaa.P

-- Own text of this claim, written by wip/tools/gen.py (a program of this session's) over the kit's print.
import Derived.Test.YtngcaphdkgihmaaFx0
import Derived.Test.YtngcaphdkgihmaaFxturnBits
import Derived.Test.YtngcaphdkgihmaaFxsteeplelaw18same
import Derived.Test.YtngcaphdkgihmaaFxsteeplelaw18awake
namespace Go.Proofs.Ytngcaphdkgihmaa.P
open Go.RowKit Go.Proofs.YtngcaphdkgihmaaW.PrintWords Go.Proofs.YtngcaphdkgihmaaW.PrintLast Go.Proofs.YtngcaphdkgihmaaW.PrintMore
attribute [local go_sem] max2_int min2_int max_two min_two max_three min_three max_four min_four   -- for this text's walks alone
set_option linter.unusedVariables false
set_option linter.unusedSimpArgs false

/-! ### steeplelaw18_TurnBack: function 4 -/
mutual
def steeplelaw18_TurnBack.j0 : Nat → Int → List Bool → Int → List Bool → Bool → Option (Bool)
  | 0, _, _, _, _, _ => none
  | k + 1, x1, x2, x7, x14, x94 => if x94 = true then (some false) else (steeplelaw18_TurnBack.l0 k x1 x2 x7 x14 0)
def steeplelaw18_TurnBack.l0 : Nat → Int → List Bool → Int → List Bool → Int → Option (Bool)
  | 0, _, _, _, _, _ => none
  | k + 1, x1, x2, x7, x14, x16 => if x16 < x7 then (if 0 ≤ x16 then (if x16 < (x14.length : Int) then (if x16 < (x2.length : Int) then (if rdOf false x2 x16 = true then (if ((rdOf false x14 x16) != (decide (x16 < (wrap64 (x7 - x1))))) = true then (some false) else (steeplelaw18_TurnBack.l0 k x1 x2 x7 x14 (wrap64 (x16 + 1)))) else (if ((rdOf false x14 x16) != false) = true then (some false) else (steeplelaw18_TurnBack.l0 k x1 x2 x7 x14 (wrap64 (x16 + 1))))) else (none)) else (none)) else (none)) else ((steeplelaw18_awake.f k).bind fun t125 => (some t125))
end
def steeplelaw18_TurnBack.f (k : Nat) (a0 : Int) (a1 : Int) (l2 : List Bool) : Option (Bool) := (some (([1, 2, 4, 8, 16, 32, 64] : List Int) : List Int)).bind fun y101 => (if 0 ≤ (Int.tmod (wrap64 ((Int.tmod a0 7) + 7)) 7) then (if (Int.tmod (wrap64 ((Int.tmod a0 7) + 7)) 7) < (y101.length : Int) then (if (rd y101 (Int.tmod (wrap64 ((Int.tmod a0 7) + 7)) 7)) = 0 then (none) else (if (l2.length : Int) = (rd y101 (Int.tmod (wrap64 ((Int.tmod a0 7) + 7)) 7)) then ((turn_Bits.f k 3 (Int.tmod (wrap64 ((Int.tmod a0 7) + 7)) 7) (Int.tmod (wrap64 ((Int.tmod a1 (rd y101 (Int.tmod (wrap64 ((Int.tmod a0 7) + 7)) 7))) + (rd y101 (Int.tmod (wrap64 ((Int.tmod a0 7) + 7)) 7)))) (rd y101 (Int.tmod (wrap64 ((Int.tmod a0 7) + 7)) 7))) l2).bind fun bt106 => ((turn_Bits.f k 3 (Int.tmod (wrap64 ((Int.tmod a0 7) + 7)) 7) (Int.tmod (wrap64 ((rd y101 (Int.tmod (wrap64 ((Int.tmod a0 7) + 7)) 7)) - (Int.tmod (wrap64 ((Int.tmod a1 (rd y101 (Int.tmod (wrap64 ((Int.tmod a0 7) + 7)) 7))) + (rd y101 (Int.tmod (wrap64 ((Int.tmod a0 7) + 7)) 7)))) (rd y101 (Int.tmod (wrap64 ((Int.tmod a0 7) + 7)) 7))))) (rd y101 (Int.tmod (wrap64 ((Int.tmod a0 7) + 7)) 7))) bt106.1).bind fun bt110 => ((turn_Bits.f k 1 (Int.tmod (wrap64 ((Int.tmod a0 7) + 7)) 7) (Int.tmod (wrap64 ((Int.tmod a1 (rd y101 (Int.tmod (wrap64 ((Int.tmod a0 7) + 7)) 7))) + (rd y101 (Int.tmod (wrap64 ((Int.tmod a0 7) + 7)) 7)))) (rd y101 (Int.tmod (wrap64 ((Int.tmod a0 7) + 7)) 7))) l2).bind fun bt114 => ((turn_Bits.f k 2 (Int.tmod (wrap64 ((Int.tmod a0 7) + 7)) 7) (Int.tmod (wrap64 ((Int.tmod a1 (rd y101 (Int.tmod (wrap64 ((Int.tmod a0 7) + 7)) 7))) + (rd y101 (Int.tmod (wrap64 ((Int.tmod a0 7) + 7)) 7)))) (rd y101 (Int.tmod (wrap64 ((Int.tmod a0 7) + 7)) 7))) bt114.1).bind fun bt118 => (if bt106.2 = 0 then (if bt110.2 = 0 then (if bt114.2 = 0 then (if bt118.2 = 0 then ((steeplelaw18_same.f k bt110.1 l2).bind fun t122 => (if t122 = true then (steeplelaw18_TurnBack.j0 k (Int.tmod (wrap64 ((Int.tmod a1 (rd y101 (Int.tmod (wrap64 ((Int.tmod a0 7) + 7)) 7))) + (rd y101 (Int.tmod (wrap64 ((Int.tmod a0 7) + 7)) 7)))) (rd y101 (Int.tmod (wrap64 ((Int.tmod a0 7) + 7)) 7))) l2 (rd y101 (Int.tmod (wrap64 ((Int.tmod a0 7) + 7)) 7)) bt118.1 ((bt118.1.length : Int) != (rd y101 (Int.tmod (wrap64 ((Int.tmod a0 7) + 7)) 7)))) else (steeplelaw18_TurnBack.j0 k (Int.tmod (wrap64 ((Int.tmod a1 (rd y101 (Int.tmod (wrap64 ((Int.tmod a0 7) + 7)) 7))) + (rd y101 (Int.tmod (wrap64 ((Int.tmod a0 7) + 7)) 7)))) (rd y101 (Int.tmod (wrap64 ((Int.tmod a0 7) + 7)) 7))) l2 (rd y101 (Int.tmod (wrap64 ((Int.tmod a0 7) + 7)) 7)) bt118.1 true))) else (steeplelaw18_TurnBack.j0 k (Int.tmod (wrap64 ((Int.tmod a1 (rd y101 (Int.tmod (wrap64 ((Int.tmod a0 7) + 7)) 7))) + (rd y101 (Int.tmod (wrap64 ((Int.tmod a0 7) + 7)) 7)))) (rd y101 (Int.tmod (wrap64 ((Int.tmod a0 7) + 7)) 7))) l2 (rd y101 (Int.tmod (wrap64 ((Int.tmod a0 7) + 7)) 7)) bt118.1 true)) else (steeplelaw18_TurnBack.j0 k (Int.tmod (wrap64 ((Int.tmod a1 (rd y101 (Int.tmod (wrap64 ((Int.tmod a0 7) + 7)) 7))) + (rd y101 (Int.tmod (wrap64 ((Int.tmod a0 7) + 7)) 7)))) (rd y101 (Int.tmod (wrap64 ((Int.tmod a0 7) + 7)) 7))) l2 (rd y101 (Int.tmod (wrap64 ((Int.tmod a0 7) + 7)) 7)) bt118.1 true)) else (steeplelaw18_TurnBack.j0 k (Int.tmod (wrap64 ((Int.tmod a1 (rd y101 (Int.tmod (wrap64 ((Int.tmod a0 7) + 7)) 7))) + (rd y101 (Int.tmod (wrap64 ((Int.tmod a0 7) + 7)) 7)))) (rd y101 (Int.tmod (wrap64 ((Int.tmod a0 7) + 7)) 7))) l2 (rd y101 (Int.tmod (wrap64 ((Int.tmod a0 7) + 7)) 7)) bt118.1 true)) else (steeplelaw18_TurnBack.j0 k (Int.tmod (wrap64 ((Int.tmod a1 (rd y101 (Int.tmod (wrap64 ((Int.tmod a0 7) + 7)) 7))) + (rd y101 (Int.tmod (wrap64 ((Int.tmod a0 7) + 7)) 7)))) (rd y101 (Int.tmod (wrap64 ((Int.tmod a0 7) + 7)) 7))) l2 (rd y101 (Int.tmod (wrap64 ((Int.tmod a0 7) + 7)) 7)) bt118.1 true)))))) else ((steeplelaw18_awake.f k).bind fun t105 => (some t105)))) else (none)) else (none))
theorem steeplelaw18_TurnBack.mono_l : ∀ k, (∀ y0 y1 y2 y3 y4, LeO (steeplelaw18_TurnBack.j0 k y0 y1 y2 y3 y4) (steeplelaw18_TurnBack.j0 (k + 1) y0 y1 y2 y3 y4)) ∧ (∀ y0 y1 y2 y3 y4, LeO (steeplelaw18_TurnBack.l0 k y0 y1 y2 y3 y4) (steeplelaw18_TurnBack.l0 (k + 1) y0 y1 y2 y3 y4))
  | 0 => ⟨fun _ _ _ _ _ r h => by simp [steeplelaw18_TurnBack.j0] at h, fun _ _ _ _ _ r h => by simp [steeplelaw18_TurnBack.l0] at h⟩
  | k + 1 => by
    obtain ⟨ih0, ih1⟩ := steeplelaw18_TurnBack.mono_l k
    refine ⟨?_, ?_⟩
    · intro y0 y1 y2 y3 y4
      unfold steeplelaw18_TurnBack.j0
      repeat' first
      | (with_reducible exact ih0 _ _ _ _ _)
      | (with_reducible exact ih1 _ _ _ _ _)
      | (with_reducible exact steeplelaw18_awake.mono _)
      | (with_reducible exact steeplelaw18_same.mono _ _ _)
      | (with_reducible exact turn_Bits.mono _ _ _ _ _)
      | (with_reducible exact LeO.refl _)
      | (with_reducible exact LeO.none _)
      | (with_reducible refine LeO.ite ?_ ?_)
      | (with_reducible refine LeO.bind ?_ (fun _ => ?_))
      | exact ih0 _ _ _ _ _
      | exact ih1 _ _ _ _ _
      | exact steeplelaw18_awake.mono _
      | exact steeplelaw18_same.mono _ _ _
      | exact turn_Bits.mono _ _ _ _ _
      | exact LeO.none _
      | refine LeO.ite ?_ ?_
      | refine LeO.bind ?_ (fun _ => ?_)
    · intro y0 y1 y2 y3 y4
      unfold steeplelaw18_TurnBack.l0
      repeat' first
      | (with_reducible exact ih0 _ _ _ _ _)
      | (with_reducible exact ih1 _ _ _ _ _)
      | (with_reducible exact steeplelaw18_awake.mono _)
      | (with_reducible exact steeplelaw18_same.mono _ _ _)
      | (with_reducible exact turn_Bits.mono _ _ _ _ _)
      | (with_reducible exact LeO.refl _)
      | (with_reducible exact LeO.none _)
      | (with_reducible refine LeO.ite ?_ ?_)
      | (with_reducible refine LeO.bind ?_ (fun _ => ?_))
      | exact ih0 _ _ _ _ _
      | exact ih1 _ _ _ _ _
      | exact steeplelaw18_awake.mono _
      | exact steeplelaw18_same.mono _ _ _
      | exact turn_Bits.mono _ _ _ _ _
      | exact LeO.none _
      | refine LeO.ite ?_ ?_
      | refine LeO.bind ?_ (fun _ => ?_)
theorem steeplelaw18_TurnBack.mono : ∀ a0 a1 a2 k, LeO (steeplelaw18_TurnBack.f k a0 a1 a2) (steeplelaw18_TurnBack.f (k + 1) a0 a1 a2) := by
  intro a0 a1 a2 k
  obtain ⟨ih0, ih1⟩ := steeplelaw18_TurnBack.mono_l k
  unfold steeplelaw18_TurnBack.f
  repeat' first
      | (with_reducible exact ih0 _ _ _ _ _)
      | (with_reducible exact ih1 _ _ _ _ _)
      | (with_reducible exact steeplelaw18_awake.mono _)
      | (with_reducible exact steeplelaw18_same.mono _ _ _)
      | (with_reducible exact turn_Bits.mono _ _ _ _ _)
      | (with_reducible exact LeO.refl _)
      | (with_reducible exact LeO.none _)
      | (with_reducible refine LeO.ite ?_ ?_)
      | (with_reducible refine LeO.bind ?_ (fun _ => ?_))
      | exact ih0 _ _ _ _ _
      | exact ih1 _ _ _ _ _
      | exact steeplelaw18_awake.mono _
      | exact steeplelaw18_same.mono _ _ _
      | exact turn_Bits.mono _ _ _ _ _
      | exact LeO.none _
      | refine LeO.ite ?_ ?_
      | refine LeO.bind ?_ (fun _ => ?_)
set_option maxHeartbeats 8000000 in
set_option maxRecDepth 100000 in
theorem steeplelaw18_TurnBack.calls (k : Nat) (a0 : Int) (a1 : Int) (A2 : Option Addr) (c2 : Nat) (l2 : List Bool) (r : Bool) (w : World) (hr2 : Kd.C Kd.bool w A2 l2.length l2) (hc2 : l2.length ≤ c2) (h : steeplelaw18_TurnBack.f k a0 a1 l2 = some r) :
    Calls Try.prog 4 #[.int .i64 a0, .int .i64 a1, .slice A2 l2.length c2] w fun e w' => e = .returned (.bool r) ∧ Below w.heap.size w w' := by
  have HR2 := Aside0.mk hr2
  have HC2 := Aside0.mk hc2
  clear hr2 hc2
  have HB := Aside0.mk (Below.refl w.heap.size w)
  have H : ((some (([1, 2, 4, 8, 16, 32, 64] : List Int) : List Int)).bind fun y101 => (if 0 ≤ (Int.tmod (wrap64 ((Int.tmod a0 7) + 7)) 7) then (if (Int.tmod (wrap64 ((Int.tmod a0 7) + 7)) 7) < (y101.length : Int) then (if (rd y101 (Int.tmod (wrap64 ((Int.tmod a0 7) + 7)) 7)) = 0 then (none) else (if (l2.length : Int) = (rd y101 (Int.tmod (wrap64 ((Int.tmod a0 7) + 7)) 7)) then ((turn_Bits.f k 3 (Int.tmod (wrap64 ((Int.tmod a0 7) + 7)) 7) (Int.tmod (wrap64 ((Int.tmod a1 (rd y101 (Int.tmod (wrap64 ((Int.tmod a0 7) + 7)) 7))) + (rd y101 (Int.tmod (wrap64 ((Int.tmod a0 7) + 7)) 7)))) (rd y101 (Int.tmod (wrap64 ((Int.tmod a0 7) + 7)) 7))) l2).bind fun bt106 => ((turn_Bits.f k 3 (Int.tmod (wrap64 ((Int.tmod a0 7) + 7)) 7) (Int.tmod (wrap64 ((rd y101 (Int.tmod (wrap64 ((Int.tmod a0 7) + 7)) 7)) - (Int.tmod (wrap64 ((Int.tmod a1 (rd y101 (Int.tmod (wrap64 ((Int.tmod a0 7) + 7)) 7))) + (rd y101 (Int.tmod (wrap64 ((Int.tmod a0 7) + 7)) 7)))) (rd y101 (Int.tmod (wrap64 ((Int.tmod a0 7) + 7)) 7))))) (rd y101 (Int.tmod (wrap64 ((Int.tmod a0 7) + 7)) 7))) bt106.1).bind fun bt110 => ((turn_Bits.f k 1 (Int.tmod (wrap64 ((Int.tmod a0 7) + 7)) 7) (Int.tmod (wrap64 ((Int.tmod a1 (rd y101 (Int.tmod (wrap64 ((Int.tmod a0 7) + 7)) 7))) + (rd y101 (Int.tmod (wrap64 ((Int.tmod a0 7) + 7)) 7)))) (rd y101 (Int.tmod (wrap64 ((Int.tmod a0 7) + 7)) 7))) l2).bind fun bt114 => ((turn_Bits.f k 2 (Int.tmod (wrap64 ((Int.tmod a0 7) + 7)) 7) (Int.tmod (wrap64 ((Int.tmod a1 (rd y101 (Int.tmod (wrap64 ((Int.tmod a0 7) + 7)) 7))) + (rd y101 (Int.tmod (wrap64 ((Int.tmod a0 7) + 7)) 7)))) (rd y101 (Int.tmod (wrap64 ((Int.tmod a0 7) + 7)) 7))) bt114.1).bind fun bt118 => (if bt106.2 = 0 then (if bt110.2 = 0 then (if bt114.2 = 0 then (if bt118.2 = 0 then ((steeplelaw18_same.f k bt110.1 l2).bind fun t122 => (if t122 = true then (steeplelaw18_TurnBack.j0 k (Int.tmod (wrap64 ((Int.tmod a1 (rd y101 (Int.tmod (wrap64 ((Int.tmod a0 7) + 7)) 7))) + (rd y101 (Int.tmod (wrap64 ((Int.tmod a0 7) + 7)) 7)))) (rd y101 (Int.tmod (wrap64 ((Int.tmod a0 7) + 7)) 7))) l2 (rd y101 (Int.tmod (wrap64 ((Int.tmod a0 7) + 7)) 7)) bt118.1 ((bt118.1.length : Int) != (rd y101 (Int.tmod (wrap64 ((Int.tmod a0 7) + 7)) 7)))) else (steeplelaw18_TurnBack.j0 k (Int.tmod (wrap64 ((Int.tmod a1 (rd y101 (Int.tmod (wrap64 ((Int.tmod a0 7) + 7)) 7))) + (rd y101 (Int.tmod (wrap64 ((Int.tmod a0 7) + 7)) 7)))) (rd y101 (Int.tmod (wrap64 ((Int.tmod a0 7) + 7)) 7))) l2 (rd y101 (Int.tmod (wrap64 ((Int.tmod a0 7) + 7)) 7)) bt118.1 true))) else (steeplelaw18_TurnBack.j0 k (Int.tmod (wrap64 ((Int.tmod a1 (rd y101 (Int.tmod (wrap64 ((Int.tmod a0 7) + 7)) 7))) + (rd y101 (Int.tmod (wrap64 ((Int.tmod a0 7) + 7)) 7)))) (rd y101 (Int.tmod (wrap64 ((Int.tmod a0 7) + 7)) 7))) l2 (rd y101 (Int.tmod (wrap64 ((Int.tmod a0 7) + 7)) 7)) bt118.1 true)) else (steeplelaw18_TurnBack.j0 k (Int.tmod (wrap64 ((Int.tmod a1 (rd y101 (Int.tmod (wrap64 ((Int.tmod a0 7) + 7)) 7))) + (rd y101 (Int.tmod (wrap64 ((Int.tmod a0 7) + 7)) 7)))) (rd y101 (Int.tmod (wrap64 ((Int.tmod a0 7) + 7)) 7))) l2 (rd y101 (Int.tmod (wrap64 ((Int.tmod a0 7) + 7)) 7)) bt118.1 true)) else (steeplelaw18_TurnBack.j0 k (Int.tmod (wrap64 ((Int.tmod a1 (rd y101 (Int.tmod (wrap64 ((Int.tmod a0 7) + 7)) 7))) + (rd y101 (Int.tmod (wrap64 ((Int.tmod a0 7) + 7)) 7)))) (rd y101 (Int.tmod (wrap64 ((Int.tmod a0 7) + 7)) 7))) l2 (rd y101 (Int.tmod (wrap64 ((Int.tmod a0 7) + 7)) 7)) bt118.1 true)) else (steeplelaw18_TurnBack.j0 k (Int.tmod (wrap64 ((Int.tmod a1 (rd y101 (Int.tmod (wrap64 ((Int.tmod a0 7) + 7)) 7))) + (rd y101 (Int.tmod (wrap64 ((Int.tmod a0 7) + 7)) 7)))) (rd y101 (Int.tmod (wrap64 ((Int.tmod a0 7) + 7)) 7))) l2 (rd y101 (Int.tmod (wrap64 ((Int.tmod a0 7) + 7)) 7)) bt118.1 true)))))) else ((steeplelaw18_awake.f k).bind fun t105 => (some t105)))) else (none)) else (none))) = some r := h
  clear h
  obtain ⟨y101, hy101⟩ : ∃ y_ : List Int, y_ = (([1, 2, 4, 8, 16, 32, 64] : List Int)) := ⟨_, rfl⟩
  replace H : (if 0 ≤ (Int.tmod (wrap64 ((Int.tmod a0 7) + 7)) 7) then (if (Int.tmod (wrap64 ((Int.tmod a0 7) + 7)) 7) < (y101.length : Int) then (if (rd y101 (Int.tmod (wrap64 ((Int.tmod a0 7) + 7)) 7)) = 0 then (none) else (if (l2.length : Int) = (rd y101 (Int.tmod (wrap64 ((Int.tmod a0 7) + 7)) 7)) then ((turn_Bits.f k 3 (Int.tmod (wrap64 ((Int.tmod a0 7) + 7)) 7) (Int.tmod (wrap64 ((Int.tmod a1 (rd y101 (Int.tmod (wrap64 ((Int.tmod a0 7) + 7)) 7))) + (rd y101 (Int.tmod (wrap64 ((Int.tmod a0 7) + 7)) 7)))) (rd y101 (Int.tmod (wrap64 ((Int.tmod a0 7) + 7)) 7))) l2).bind fun bt106 => ((turn_Bits.f k 3 (Int.tmod (wrap64 ((Int.tmod a0 7) + 7)) 7) (Int.tmod (wrap64 ((rd y101 (Int.tmod (wrap64 ((Int.tmod a0 7) + 7)) 7)) - (Int.tmod (wrap64 ((Int.tmod a1 (rd y101 (Int.tmod (wrap64 ((Int.tmod a0 7) + 7)) 7))) + (rd y101 (Int.tmod (wrap64 ((Int.tmod a0 7) + 7)) 7)))) (rd y101 (Int.tmod (wrap64 ((Int.tmod a0 7) + 7)) 7))))) (rd y101 (Int.tmod (wrap64 ((Int.tmod a0 7) + 7)) 7))) bt106.1).bind fun bt110 => ((turn_Bits.f k 1 (Int.tmod (wrap64 ((Int.tmod a0 7) + 7)) 7) (Int.tmod (wrap64 ((Int.tmod a1 (rd y101 (Int.tmod (wrap64 ((Int.tmod a0 7) + 7)) 7))) + (rd y101 (Int.tmod (wrap64 ((Int.tmod a0 7) + 7)) 7)))) (rd y101 (Int.tmod (wrap64 ((Int.tmod a0 7) + 7)) 7))) l2).bind fun bt114 => ((turn_Bits.f k 2 (Int.tmod (wrap64 ((Int.tmod a0 7) + 7)) 7) (Int.tmod (wrap64 ((Int.tmod a1 (rd y101 (Int.tmod (wrap64 ((Int.tmod a0 7) + 7)) 7))) + (rd y101 (Int.tmod (wrap64 ((Int.tmod a0 7) + 7)) 7)))) (rd y101 (Int.tmod (wrap64 ((Int.tmod a0 7) + 7)) 7))) bt114.1).bind fun bt118 => (if bt106.2 = 0 then (if bt110.2 = 0 then (if bt114.2 = 0 then (if bt118.2 = 0 then ((steeplelaw18_same.f k bt110.1 l2).bind fun t122 => (if t122 = true then (steeplelaw18_TurnBack.j0 k (Int.tmod (wrap64 ((Int.tmod a1 (rd y101 (Int.tmod (wrap64 ((Int.tmod a0 7) + 7)) 7))) + (rd y101 (Int.tmod (wrap64 ((Int.tmod a0 7) + 7)) 7)))) (rd y101 (Int.tmod (wrap64 ((Int.tmod a0 7) + 7)) 7))) l2 (rd y101 (Int.tmod (wrap64 ((Int.tmod a0 7) + 7)) 7)) bt118.1 ((bt118.1.length : Int) != (rd y101 (Int.tmod (wrap64 ((Int.tmod a0 7) + 7)) 7)))) else (steeplelaw18_TurnBack.j0 k (Int.tmod (wrap64 ((Int.tmod a1 (rd y101 (Int.tmod (wrap64 ((Int.tmod a0 7) + 7)) 7))) + (rd y101 (Int.tmod (wrap64 ((Int.tmod a0 7) + 7)) 7)))) (rd y101 (Int.tmod (wrap64 ((Int.tmod a0 7) + 7)) 7))) l2 (rd y101 (Int.tmod (wrap64 ((Int.tmod a0 7) + 7)) 7)) bt118.1 true))) else (steeplelaw18_TurnBack.j0 k (Int.tmod (wrap64 ((Int.tmod a1 (rd y101 (Int.tmod (wrap64 ((Int.tmod a0 7) + 7)) 7))) + (rd y101 (Int.tmod (wrap64 ((Int.tmod a0 7) + 7)) 7)))) (rd y101 (Int.tmod (wrap64 ((Int.tmod a0 7) + 7)) 7))) l2 (rd y101 (Int.tmod (wrap64 ((Int.tmod a0 7) + 7)) 7)) bt118.1 true)) else (steeplelaw18_TurnBack.j0 k (Int.tmod (wrap64 ((Int.tmod a1 (rd y101 (Int.tmod (wrap64 ((Int.tmod a0 7) + 7)) 7))) + (rd y101 (Int.tmod (wrap64 ((Int.tmod a0 7) + 7)) 7)))) (rd y101 (Int.tmod (wrap64 ((Int.tmod a0 7) + 7)) 7))) l2 (rd y101 (Int.tmod (wrap64 ((Int.tmod a0 7) + 7)) 7)) bt118.1 true)) else (steeplelaw18_TurnBack.j0 k (Int.tmod (wrap64 ((Int.tmod a1 (rd y101 (Int.tmod (wrap64 ((Int.tmod a0 7) + 7)) 7))) + (rd y101 (Int.tmod (wrap64 ((Int.tmod a0 7) + 7)) 7)))) (rd y101 (Int.tmod (wrap64 ((Int.tmod a0 7) + 7)) 7))) l2 (rd y101 (Int.tmod (wrap64 ((Int.tmod a0 7) + 7)) 7)) bt118.1 true)) else (steeplelaw18_TurnBack.j0 k (Int.tmod (wrap64 ((Int.tmod a1 (rd y101 (Int.tmod (wrap64 ((Int.tmod a0 7) + 7)) 7))) + (rd y101 (Int.tmod (wrap64 ((Int.tmod a0 7) + 7)) 7)))) (rd y101 (Int.tmod (wrap64 ((Int.tmod a0 7) + 7)) 7))) l2 (rd y101 (Int.tmod (wrap64 ((Int.tmod a0 7) + 7)) 7)) bt118.1 true)))))) else ((steeplelaw18_awake.f k).bind fun t105 => (some t105)))) else (none)) else (none)) = some r := by first | (rw [hy101]; with_reducible exact H) | (have H2_ := (Option.bind_some _ _).symm.trans H; rw [hy101]; with_reducible exact H2_) | (have H2_ := (Option.bind_some _ _).symm.trans H; with_reducible exact H2_) | with_reducible exact H | (rw [hy101]; exact H) | exact H
  have Ny101 := Aside0.mk hy101
  clear hy101
  obtain ⟨ji4, hji4⟩ : ∃ j_ : Int, (Int.tmod (wrap64 ((Int.tmod a0 7) + 7)) 7) = j_ := ⟨_, rfl⟩
  replace H : (if 0 ≤ (ji4) then (if (ji4) < (y101.length : Int) then (if (rd y101 (ji4)) = 0 then (none) else (if (l2.length : Int) = (rd y101 (ji4)) then ((turn_Bits.f k 3 (ji4) (Int.tmod (wrap64 ((Int.tmod a1 (rd y101 (ji4))) + (rd y101 (ji4)))) (rd y101 (ji4))) l2).bind fun bt106 => ((turn_Bits.f k 3 (ji4) (Int.tmod (wrap64 ((rd y101 (ji4)) - (Int.tmod (wrap64 ((Int.tmod a1 (rd y101 (ji4))) + (rd y101 (ji4)))) (rd y101 (ji4))))) (rd y101 (ji4))) bt106.1).bind fun bt110 => ((turn_Bits.f k 1 (ji4) (Int.tmod (wrap64 ((Int.tmod a1 (rd y101 (ji4))) + (rd y101 (ji4)))) (rd y101 (ji4))) l2).bind fun bt114 => ((turn_Bits.f k 2 (ji4) (Int.tmod (wrap64 ((Int.tmod a1 (rd y101 (ji4))) + (rd y101 (ji4)))) (rd y101 (ji4))) bt114.1).bind fun bt118 => (if bt106.2 = 0 then (if bt110.2 = 0 then (if bt114.2 = 0 then (if bt118.2 = 0 then ((steeplelaw18_same.f k bt110.1 l2).bind fun t122 => (if t122 = true then (steeplelaw18_TurnBack.j0 k (Int.tmod (wrap64 ((Int.tmod a1 (rd y101 (ji4))) + (rd y101 (ji4)))) (rd y101 (ji4))) l2 (rd y101 (ji4)) bt118.1 ((bt118.1.length : Int) != (rd y101 (ji4)))) else (steeplelaw18_TurnBack.j0 k (Int.tmod (wrap64 ((Int.tmod a1 (rd y101 (ji4))) + (rd y101 (ji4)))) (rd y101 (ji4))) l2 (rd y101 (ji4)) bt118.1 true))) else (steeplelaw18_TurnBack.j0 k (Int.tmod (wrap64 ((Int.tmod a1 (rd y101 (ji4))) + (rd y101 (ji4)))) (rd y101 (ji4))) l2 (rd y101 (ji4)) bt118.1 true)) else (steeplelaw18_TurnBack.j0 k (Int.tmod (wrap64 ((Int.tmod a1 (rd y101 (ji4))) + (rd y101 (ji4)))) (rd y101 (ji4))) l2 (rd y101 (ji4)) bt118.1 true)) else (steeplelaw18_TurnBack.j0 k (Int.tmod (wrap64 ((Int.tmod a1 (rd y101 (ji4))) + (rd y101 (ji4)))) (rd y101 (ji4))) l2 (rd y101 (ji4)) bt118.1 true)) else (steeplelaw18_TurnBack.j0 k (Int.tmod (wrap64 ((Int.tmod a1 (rd y101 (ji4))) + (rd y101 (ji4)))) (rd y101 (ji4))) l2 (rd y101 (ji4)) bt118.1 true)))))) else ((steeplelaw18_awake.f k).bind fun t105 => (some t105)))) else (none)) else (none)) = some r := by first | (rw [hji4] at H; exact H) | (simp only [hji4] at H ⊢; exact H)
  by_cases c5 : 0 ≤ (ji4)
  · rw [if_pos c5] at H
    have c5b0 : decide (0 ≤ (ji4)) = true := decide_eq_true c5
    clear c5
    by_cases c6 : (ji4) < (y101.length : Int)
    · rw [if_pos c6] at H
      have c6b0 : decide ((ji4) < (y101.length : Int)) = true := decide_eq_true c6
      clear c6
      by_cases c7 : (rd y101 (ji4)) = 0
      · rw [if_pos c7] at H
        exact absurd H (by simp)
      · rw [if_neg c7] at H
        have c7b0 : ((rd y101 (ji4)) == 0) = false := beq_eq_false_iff_ne.mpr c7
        have c7b1 : ((rd y101 (ji4)) != 0) = true := bne_iff_ne.mpr c7
        by_cases c8 : (l2.length : Int) = (rd y101 (ji4))
        · rw [if_pos c8] at H
          have c8b0 : ((l2.length : Int) == (rd y101 (ji4))) = true := beq_iff_eq.mpr c8
          have c8b1 : ((l2.length : Int) != (rd y101 (ji4))) = false := bne_eq_false_iff_eq.mpr c8
          clear c8
          replace H := Option.bind_eq_some_iff.mp H
          obtain ⟨⟨t106, t107⟩, A90, H⟩ := H
          replace H : ((turn_Bits.f k 3 (ji4) (Int.tmod (wrap64 ((rd y101 (ji4)) - (Int.tmod (wrap64 ((Int.tmod a1 (rd y101 (ji4))) + (rd y101 (ji4)))) (rd y101 (ji4))))) (rd y101 (ji4))) t106).bind fun bt110 => ((turn_Bits.f k 1 (ji4) (Int.tmod (wrap64 ((Int.tmod a1 (rd y101 (ji4))) + (rd y101 (ji4)))) (rd y101 (ji4))) l2).bind fun bt114 => ((turn_Bits.f k 2 (ji4) (Int.tmod (wrap64 ((Int.tmod a1 (rd y101 (ji4))) + (rd y101 (ji4)))) (rd y101 (ji4))) bt114.1).bind fun bt118 => (if t107 = 0 then (if bt110.2 = 0 then (if bt114.2 = 0 then (if bt118.2 = 0 then ((steeplelaw18_same.f k bt110.1 l2).bind fun t122 => (if t122 = true then (steeplelaw18_TurnBack.j0 k (Int.tmod (wrap64 ((Int.tmod a1 (rd y101 (ji4))) + (rd y101 (ji4)))) (rd y101 (ji4))) l2 (rd y101 (ji4)) bt118.1 ((bt118.1.length : Int) != (rd y101 (ji4)))) else (steeplelaw18_TurnBack.j0 k (Int.tmod (wrap64 ((Int.tmod a1 (rd y101 (ji4))) + (rd y101 (ji4)))) (rd y101 (ji4))) l2 (rd y101 (ji4)) bt118.1 true))) else (steeplelaw18_TurnBack.j0 k (Int.tmod (wrap64 ((Int.tmod a1 (rd y101 (ji4))) + (rd y101 (ji4)))) (rd y101 (ji4))) l2 (rd y101 (ji4)) bt118.1 true)) else (steeplelaw18_TurnBack.j0 k (Int.tmod (wrap64 ((Int.tmod a1 (rd y101 (ji4))) + (rd y101 (ji4)))) (rd y101 (ji4))) l2 (rd y101 (ji4)) bt118.1 true)) else (steeplelaw18_TurnBack.j0 k (Int.tmod (wrap64 ((Int.tmod a1 (rd y101 (ji4))) + (rd y101 (ji4)))) (rd y101 (ji4))) l2 (rd y101 (ji4)) bt118.1 true)) else (steeplelaw18_TurnBack.j0 k (Int.tmod (wrap64 ((Int.tmod a1 (rd y101 (ji4))) + (rd y101 (ji4)))) (rd y101 (ji4))) l2 (rd y101 (ji4)) bt118.1 true))))) = some r := H
          have A9 := Aside0.mk A90
          clear A90
          replace H := Option.bind_eq_some_iff.mp H
          obtain ⟨⟨t110, t111⟩, A100, H⟩ := H
          replace H : ((turn_Bits.f k 1 (ji4) (Int.tmod (wrap64 ((Int.tmod a1 (rd y101 (ji4))) + (rd y101 (ji4)))) (rd y101 (ji4))) l2).bind fun bt114 => ((turn_Bits.f k 2 (ji4) (Int.tmod (wrap64 ((Int.tmod a1 (rd y101 (ji4))) + (rd y101 (ji4)))) (rd y101 (ji4))) bt114.1).bind fun bt118 => (if t107 = 0 then (if t111 = 0 then (if bt114.2 = 0 then (if bt118.2 = 0 then ((steeplelaw18_same.f k t110 l2).bind fun t122 => (if t122 = true then (steeplelaw18_TurnBack.j0 k (Int.tmod (wrap64 ((Int.tmod a1 (rd y101 (ji4))) + (rd y101 (ji4)))) (rd y101 (ji4))) l2 (rd y101 (ji4)) bt118.1 ((bt118.1.length : Int) != (rd y101 (ji4)))) else (steeplelaw18_TurnBack.j0 k (Int.tmod (wrap64 ((Int.tmod a1 (rd y101 (ji4))) + (rd y101 (ji4)))) (rd y101 (ji4))) l2 (rd y101 (ji4)) bt118.1 true))) else (steeplelaw18_TurnBack.j0 k (Int.tmod (wrap64 ((Int.tmod a1 (rd y101 (ji4))) + (rd y101 (ji4)))) (rd y101 (ji4))) l2 (rd y101 (ji4)) bt118.1 true)) else (steeplelaw18_TurnBack.j0 k (Int.tmod (wrap64 ((Int.tmod a1 (rd y101 (ji4))) + (rd y101 (ji4)))) (rd y101 (ji4))) l2 (rd y101 (ji4)) bt118.1 true)) else (steeplelaw18_TurnBack.j0 k (Int.tmod (wrap64 ((Int.tmod a1 (rd y101 (ji4))) + (rd y101 (ji4)))) (rd y101 (ji4))) l2 (rd y101 (ji4)) bt118.1 true)) else (steeplelaw18_TurnBack.j0 k (Int.tmod (wrap64 ((Int.tmod a1 (rd y101 (ji4))) + (rd y101 (ji4)))) (rd y101 (ji4))) l2 (rd y101 (ji4)) bt118.1 true)))) = some r := H
          have A10 := Aside0.mk A100
          clear A100
          replace H := Option.bind_eq_some_iff.mp H
          obtain ⟨⟨t114, t115⟩, A110, H⟩ := H
          replace H : ((turn_Bits.f k 2 (ji4) (Int.tmod (wrap64 ((Int.tmod a1 (rd y101 (ji4))) + (rd y101 (ji4)))) (rd y101 (ji4))) t114).bind fun bt118 => (if t107 = 0 then (if t111 = 0 then (if t115 = 0 then (if bt118.2 = 0 then ((steeplelaw18_same.f k t110 l2).bind fun t122 => (if t122 = true then (steeplelaw18_TurnBack.j0 k (Int.tmod (wrap64 ((Int.tmod a1 (rd y101 (ji4))) + (rd y101 (ji4)))) (rd y101 (ji4))) l2 (rd y101 (ji4)) bt118.1 ((bt118.1.length : Int) != (rd y101 (ji4)))) else (steeplelaw18_TurnBack.j0 k (Int.tmod (wrap64 ((Int.tmod a1 (rd y101 (ji4))) + (rd y101 (ji4)))) (rd y101 (ji4))) l2 (rd y101 (ji4)) bt118.1 true))) else (steeplelaw18_TurnBack.j0 k (Int.tmod (wrap64 ((Int.tmod a1 (rd y101 (ji4))) + (rd y101 (ji4)))) (rd y101 (ji4))) l2 (rd y101 (ji4)) bt118.1 true)) else (steeplelaw18_TurnBack.j0 k (Int.tmod (wrap64 ((Int.tmod a1 (rd y101 (ji4))) + (rd y101 (ji4)))) (rd y101 (ji4))) l2 (rd y101 (ji4)) bt118.1 true)) else (steeplelaw18_TurnBack.j0 k (Int.tmod (wrap64 ((Int.tmod a1 (rd y101 (ji4))) + (rd y101 (ji4)))) (rd y101 (ji4))) l2 (rd y101 (ji4)) bt118.1 true)) else (steeplelaw18_TurnBack.j0 k (Int.tmod (wrap64 ((Int.tmod a1 (rd y101 (ji4))) + (rd y101 (ji4)))) (rd y101 (ji4))) l2 (rd y101 (ji4)) bt118.1 true))) = some r := H
          have A11 := Aside0.mk A110
          clear A110
          replace H := Option.bind_eq_some_iff.mp H
          obtain ⟨⟨t118, t119⟩, A120, H⟩ := H
          replace H : (if t107 = 0 then (if t111 = 0 then (if t115 = 0 then (if t119 = 0 then ((steeplelaw18_same.f k t110 l2).bind fun t122 => (if t122 = true then (steeplelaw18_TurnBack.j0 k (Int.tmod (wrap64 ((Int.tmod a1 (rd y101 (ji4))) + (rd y101 (ji4)))) (rd y101 (ji4))) l2 (rd y101 (ji4)) t118 ((t118.length : Int) != (rd y101 (ji4)))) else (steeplelaw18_TurnBack.j0 k (Int.tmod (wrap64 ((Int.tmod a1 (rd y101 (ji4))) + (rd y101 (ji4)))) (rd y101 (ji4))) l2 (rd y101 (ji4)) t118 true))) else (steeplelaw18_TurnBack.j0 k (Int.tmod (wrap64 ((Int.tmod a1 (rd y101 (ji4))) + (rd y101 (ji4)))) (rd y101 (ji4))) l2 (rd y101 (ji4)) t118 true)) else (steeplelaw18_TurnBack.j0 k (Int.tmod (wrap64 ((Int.tmod a1 (rd y101 (ji4))) + (rd y101 (ji4)))) (rd y101 (ji4))) l2 (rd y101 (ji4)) t118 true)) else (steeplelaw18_TurnBack.j0 k (Int.tmod (wrap64 ((Int.tmod a1 (rd y101 (ji4))) + (rd y101 (ji4)))) (rd y101 (ji4))) l2 (rd y101 (ji4)) t118 true)) else (steeplelaw18_TurnBack.j0 k (Int.tmod (wrap64 ((Int.tmod a1 (rd y101 (ji4))) + (rd y101 (ji4)))) (rd y101 (ji4))) l2 (rd y101 (ji4)) t118 true)) = some r := H
          have A12 := Aside0.mk A120
          clear A120
          have HC13 := Aside0.mk H
          clear H
          go_enter Try.func4, Try.ntmps4
          go_upto_region 10 with (first | ((with_reducible refine gate_dst (N := 21) rfl ?_); (try (refine gate_guard (by rfl) ?_; dsimp only)); refine Kd.R_lit (Kd.int .i64) _ 3 ?hg (N := 21) ?hd (xs := ([1, 2, 4, 8, 16, 32, 64] : List Int)) (inner := [.int .i64 1, .int .i64 2, .int .i64 4, .int .i64 8, .int .i64 16, .int .i64 32, .int .i64 64]) (ok := fun _ => True) (okp := fun _ => True) ?hr ?hp (fun _ hk => hk) trivial (Below.refl _ _) (Nat.le_refl _) (by simp) ?_; (case hd => rfl); (case hg => rfl); (case hr => first | (go_simp; done) | (go_simp; rfl)); (case hp => exact (Reps.one (show Kd.M (Kd.int .i64) _ _ _ 1 [.int .i64 1] from rfl) (Reps.one (show Kd.M (Kd.int .i64) _ _ _ 2 [.int .i64 2] from rfl) (Reps.one (show Kd.M (Kd.int .i64) _ _ _ 4 [.int .i64 4] from rfl) (Reps.one (show Kd.M (Kd.int .i64) _ _ _ 8 [.int .i64 8] from rfl) (Reps.one (show Kd.M (Kd.int .i64) _ _ _ 16 [.int .i64 16] from rfl) (Reps.one (show Kd.M (Kd.int .i64) _ _ _ 32 [.int .i64 32] from rfl) (Reps.one (show Kd.M (Kd.int .i64) _ _ _ 64 [.int .i64 64] from rfl) (Reps.none _ _))))))))); intro v102 w14 ho15 hb hg_ hnew_; clear hg_ hnew_; (first | rw [← Ny101.out] at ho15 | (simp only [Int.reduceToNat] at ho15; rw [← Ny101.out] at ho15)); have n0_ := Aside0.mk (Kd.R_lower ho15 (below_size (by repeat (first | (with_reducible first | exact HB.out | apply below_alloc | apply pw_below_drewN | apply below_drew1) | exact HB.out)))); have n1_ := Aside0.mk (below_step (by repeat (first | (with_reducible first | exact HB.out | apply below_alloc | apply pw_below_drewN | apply below_drew1) | exact HB.out)) hb); clear HB; have HO103 := n0_; have HB := n1_; clear n0_ n1_; clear hb ho15; obtain ⟨Ao16, co16, eo16⟩ := Kd.R_slice HO103.out; subst eo16; have p104 : 0 ≤ ((ji4) : Int) := of_decide_eq_true (by first | (with_reducible assumption) | assumption); have q104 : (ji4) < (y101.length : Int) := of_decide_eq_true (by first | (with_reducible assumption) | assumption); obtain ⟨ad104, e104, hx104_0⟩ := Kd.at_int (Kd.R_reads' HO103.out).2.2 (ji4) p104 q104; cases e104; replace p104 := eq_true p104; replace q104 := eq_true q104) | (go_at_call 16; (with_reducible refine (turn_Bits.calls k 3 ji4 (Int.tmod (wrap64 ((Int.tmod a1 (rd y101 (ji4))) + (rd y101 (ji4)))) (rd y101 (ji4))) _ _ l2 t106 t107 _ ?side1 ?side2 A9.out).mono ?_); (case side1 => repeat (first | exact (Kd.C_below HR2.out HB.out) | (with_reducible refine Kd.C_alloc ?_ _) | (with_reducible refine Kd.C_drewN ?_ _) | (with_reducible refine Kd.C_drew ?_))); (case side2 => exact HC2.out); rintro e w17 ⟨v108, rfl, ho0, hb⟩; have n0_ := Aside0.mk (Kd.R_below (by (with_reducible repeat (first | apply Kd.R_alloc | apply Kd.R_drewN | apply Kd.R_drew)); exact HO103.out) hb); have n1_ := Aside0.mk (Kd.R_lower ho0 (below_size (by repeat (first | (with_reducible first | exact HB.out | apply below_alloc | apply pw_below_drewN | apply below_drew1) | exact HB.out)))); have n2_ := Aside0.mk (below_step (by repeat (first | (with_reducible first | exact HB.out | apply below_alloc | apply pw_below_drewN | apply below_drew1) | exact HB.out)) hb); clear HO103; clear HB; have HO103 := n0_; have HO109 := n1_; have HB := n2_; clear n0_ n1_ n2_; (try clear hb); (try clear hb2); (try clear hk); (try clear hi); (try clear ho0); obtain ⟨Ao18, co18, eo18⟩ := Kd.R_slice HO109.out; subst eo18) | (go_at_call 16; (with_reducible refine (turn_Bits.calls k 3 ji4 (Int.tmod (wrap64 ((rd y101 (ji4)) - (Int.tmod (wrap64 ((Int.tmod a1 (rd y101 (ji4))) + (rd y101 (ji4)))) (rd y101 (ji4))))) (rd y101 (ji4))) _ _ t106 t110 t111 _ ?side1 ?side2 A10.out).mono ?_); (case side1 => repeat (first | exact (Kd.R_reads' HO109.out).2.2 | (with_reducible refine Kd.C_alloc ?_ _) | (with_reducible refine Kd.C_drewN ?_ _) | (with_reducible refine Kd.C_drew ?_))); (case side2 => exact (Kd.R_reads' HO109.out).2.1); rintro e w19 ⟨v112, rfl, ho0, hb⟩; have n0_ := Aside0.mk (Kd.R_below (by (with_reducible repeat (first | apply Kd.R_alloc | apply Kd.R_drewN | apply Kd.R_drew)); exact HO103.out) hb); have n1_ := Aside0.mk (Kd.R_elder' (by (with_reducible repeat (first | apply Kd.R_alloc | apply Kd.R_drewN | apply Kd.R_drew)); exact HO109.out) (Kd.R_base ho0) hb); have n2_ := Aside0.mk (Kd.R_lower (Kd.R_new' ho0 (Kd.R_lt (by (with_reducible repeat (first | apply Kd.R_alloc | apply Kd.R_drewN | apply Kd.R_drew)); exact HO109.out))) (below_size (by repeat (first | (with_reducible first | exact HB.out | apply below_alloc | apply pw_below_drewN | apply below_drew1) | exact HB.out)))); have n3_ := Aside0.mk (below_step (by repeat (first | (with_reducible first | exact HB.out | apply below_alloc | apply pw_below_drewN | apply below_drew1) | exact HB.out)) hb); clear HO103; clear HO109; clear HB; have HO103 := n0_; have HO109 := n1_; have HO113 := n2_; have HB := n3_; clear n0_ n1_ n2_ n3_; (try clear hb); (try clear hb2); (try clear hk); (try clear hi); (try clear ho0)) | (go_at_call 16; (with_reducible refine (turn_Bits.calls k 1 ji4 (Int.tmod (wrap64 ((Int.tmod a1 (rd y101 (ji4))) + (rd y101 (ji4)))) (rd y101 (ji4))) _ _ l2 t114 t115 _ ?side1 ?side2 A11.out).mono ?_); (case side1 => repeat (first | exact (Kd.C_below HR2.out HB.out) | (with_reducible refine Kd.C_alloc ?_ _) | (with_reducible refine Kd.C_drewN ?_ _) | (with_reducible refine Kd.C_drew ?_))); (case side2 => exact HC2.out); rintro e w20 ⟨v116, rfl, ho0, hb⟩; have n0_ := Aside0.mk (Kd.R_below (by (with_reducible repeat (first | apply Kd.R_alloc | apply Kd.R_drewN | apply Kd.R_drew)); exact HO103.out) hb); have n1_ := Aside0.mk (Kd.R_elder' (by (with_reducible repeat (first | apply Kd.R_alloc | apply Kd.R_drewN | apply Kd.R_drew)); exact HO109.out) (Kd.R_base ho0) hb); have n2_ := Aside0.mk (Kd.R_elder' (by (with_reducible repeat (first | apply Kd.R_alloc | apply Kd.R_drewN | apply Kd.R_drew)); exact HO113.out) (Kd.R_base ho0) hb); have n3_ := Aside0.mk (Kd.R_lower (Kd.R_new' (Kd.R_new' ho0 (Kd.R_lt (by (with_reducible repeat (first | apply Kd.R_alloc | apply Kd.R_drewN | apply Kd.R_drew)); exact HO109.out))) (Kd.R_lt (by (with_reducible repeat (first | apply Kd.R_alloc | apply Kd.R_drewN | apply Kd.R_drew)); exact HO113.out))) (below_size (by repeat (first | (with_reducible first | exact HB.out | apply below_alloc | apply pw_below_drewN | apply below_drew1) | exact HB.out)))); have n4_ := Aside0.mk (below_step (by repeat (first | (with_reducible first | exact HB.out | apply below_alloc | apply pw_below_drewN | apply below_drew1) | exact HB.out)) hb); clear HO103; clear HO109; clear HO113; clear HB; have HO103 := n0_; have HO109 := n1_; have HO113 := n2_; have HO117 := n3_; have HB := n4_; clear n0_ n1_ n2_ n3_ n4_; (try clear hb); (try clear hb2); (try clear hk); (try clear hi); (try clear ho0); obtain ⟨Ao21, co21, eo21⟩ := Kd.R_slice HO117.out; subst eo21) | (go_at_call 16; (with_reducible refine (turn_Bits.calls k 2 ji4 (Int.tmod (wrap64 ((Int.tmod a1 (rd y101 (ji4))) + (rd y101 (ji4)))) (rd y101 (ji4))) _ _ t114 t118 t119 _ ?side1 ?side2 A12.out).mono ?_); (case side1 => repeat (first | exact (Kd.R_reads' HO117.out).2.2 | (with_reducible refine Kd.C_alloc ?_ _) | (with_reducible refine Kd.C_drewN ?_ _) | (with_reducible refine Kd.C_drew ?_))); (case side2 => exact (Kd.R_reads' HO117.out).2.1); rintro e w22 ⟨v120, rfl, ho0, hb⟩; have n0_ := Aside0.mk (Kd.R_below (by (with_reducible repeat (first | apply Kd.R_alloc | apply Kd.R_drewN | apply Kd.R_drew)); exact HO103.out) hb); have n1_ := Aside0.mk (Kd.R_elder' (by (with_reducible repeat (first | apply Kd.R_alloc | apply Kd.R_drewN | apply Kd.R_drew)); exact HO109.out) (Kd.R_base ho0) hb); have n2_ := Aside0.mk (Kd.R_elder' (by (with_reducible repeat (first | apply Kd.R_alloc | apply Kd.R_drewN | apply Kd.R_drew)); exact HO113.out) (Kd.R_base ho0) hb); have n3_ := Aside0.mk (Kd.R_elder' (by (with_reducible repeat (first | apply Kd.R_alloc | apply Kd.R_drewN | apply Kd.R_drew)); exact HO117.out) (Kd.R_base ho0) hb); have n4_ := Aside0.mk (Kd.R_lower (Kd.R_new' (Kd.R_new' (Kd.R_new' ho0 (Kd.R_lt (by (with_reducible repeat (first | apply Kd.R_alloc | apply Kd.R_drewN | apply Kd.R_drew)); exact HO109.out))) (Kd.R_lt (by (with_reducible repeat (first | apply Kd.R_alloc | apply Kd.R_drewN | apply Kd.R_drew)); exact HO113.out))) (Kd.R_lt (by (with_reducible repeat (first | apply Kd.R_alloc | apply Kd.R_drewN | apply Kd.R_drew)); exact HO117.out))) (below_size (by repeat (first | (with_reducible first | exact HB.out | apply below_alloc | apply pw_below_drewN | apply below_drew1) | exact HB.out)))); have n5_ := Aside0.mk (below_step (by repeat (first | (with_reducible first | exact HB.out | apply below_alloc | apply pw_below_drewN | apply below_drew1) | exact HB.out)) hb); clear HO103; clear HO109; clear HO113; clear HO117; clear HB; have HO103 := n0_; have HO109 := n1_; have HO113 := n2_; have HO117 := n3_; have HO121 := n4_; have HB := n5_; clear n0_ n1_ n2_ n3_ n4_ n5_; (try clear hb); (try clear hb2); (try clear hk); (try clear hi); (try clear ho0)))
          repeat (go_quiet (first | ((with_reducible refine gate_dst (N := 21) rfl ?_); (try (refine gate_guard (by rfl) ?_; dsimp only)); refine Kd.R_lit (Kd.int .i64) _ 3 ?hg (N := 21) ?hd (xs := ([1, 2, 4, 8, 16, 32, 64] : List Int)) (inner := [.int .i64 1, .int .i64 2, .int .i64 4, .int .i64 8, .int .i64 16, .int .i64 32, .int .i64 64]) (ok := fun _ => True) (okp := fun _ => True) ?hr ?hp (fun _ hk => hk) trivial (Below.refl _ _) (Nat.le_refl _) (by simp) ?_; (case hd => rfl); (case hg => rfl); (case hr => first | (go_simp; done) | (go_simp; rfl)); (case hp => exact (Reps.one (show Kd.M (Kd.int .i64) _ _ _ 1 [.int .i64 1] from rfl) (Reps.one (show Kd.M (Kd.int .i64) _ _ _ 2 [.int .i64 2] from rfl) (Reps.one (show Kd.M (Kd.int .i64) _ _ _ 4 [.int .i64 4] from rfl) (Reps.one (show Kd.M (Kd.int .i64) _ _ _ 8 [.int .i64 8] from rfl) (Reps.one (show Kd.M (Kd.int .i64) _ _ _ 16 [.int .i64 16] from rfl) (Reps.one (show Kd.M (Kd.int .i64) _ _ _ 32 [.int .i64 32] from rfl) (Reps.one (show Kd.M (Kd.int .i64) _ _ _ 64 [.int .i64 64] from rfl) (Reps.none _ _))))))))); intro v102 w14 ho15 hb hg_ hnew_; clear hg_ hnew_; (first | rw [← Ny101.out] at ho15 | (simp only [Int.reduceToNat] at ho15; rw [← Ny101.out] at ho15)); have n0_ := Aside0.mk (Kd.R_lower ho15 (below_size (by repeat (first | (with_reducible first | exact HB.out | apply below_alloc | apply pw_below_drewN | apply below_drew1) | exact HB.out)))); have n1_ := Aside0.mk (below_step (by repeat (first | (with_reducible first | exact HB.out | apply below_alloc | apply pw_below_drewN | apply below_drew1) | exact HB.out)) hb); clear HB; have HO103 := n0_; have HB := n1_; clear n0_ n1_; clear hb ho15; obtain ⟨Ao16, co16, eo16⟩ := Kd.R_slice HO103.out; subst eo16; have p104 : 0 ≤ ((ji4) : Int) := of_decide_eq_true (by first | (with_reducible assumption) | assumption); have q104 : (ji4) < (y101.length : Int) := of_decide_eq_true (by first | (with_reducible assumption) | assumption); obtain ⟨ad104, e104, hx104_0⟩ := Kd.at_int (Kd.R_reads' HO103.out).2.2 (ji4) p104 q104; cases e104; replace p104 := eq_true p104; replace q104 := eq_true q104) | (go_at_call 16; (with_reducible refine (turn_Bits.calls k 3 ji4 (Int.tmod (wrap64 ((Int.tmod a1 (rd y101 (ji4))) + (rd y101 (ji4)))) (rd y101 (ji4))) _ _ l2 t106 t107 _ ?side1 ?side2 A9.out).mono ?_); (case side1 => repeat (first | exact (Kd.C_below HR2.out HB.out) | (with_reducible refine Kd.C_alloc ?_ _) | (with_reducible refine Kd.C_drewN ?_ _) | (with_reducible refine Kd.C_drew ?_))); (case side2 => exact HC2.out); rintro e w17 ⟨v108, rfl, ho0, hb⟩; have n0_ := Aside0.mk (Kd.R_below (by (with_reducible repeat (first | apply Kd.R_alloc | apply Kd.R_drewN | apply Kd.R_drew)); exact HO103.out) hb); have n1_ := Aside0.mk (Kd.R_lower ho0 (below_size (by repeat (first | (with_reducible first | exact HB.out | apply below_alloc | apply pw_below_drewN | apply below_drew1) | exact HB.out)))); have n2_ := Aside0.mk (below_step (by repeat (first | (with_reducible first | exact HB.out | apply below_alloc | apply pw_below_drewN | apply below_drew1) | exact HB.out)) hb); clear HO103; clear HB; have HO103 := n0_; have HO109 := n1_; have HB := n2_; clear n0_ n1_ n2_; (try clear hb); (try clear hb2); (try clear hk); (try clear hi); (try clear ho0); obtain ⟨Ao18, co18, eo18⟩ := Kd.R_slice HO109.out; subst eo18) | (go_at_call 16; (with_reducible refine (turn_Bits.calls k 3 ji4 (Int.tmod (wrap64 ((rd y101 (ji4)) - (Int.tmod (wrap64 ((Int.tmod a1 (rd y101 (ji4))) + (rd y101 (ji4)))) (rd y101 (ji4))))) (rd y101 (ji4))) _ _ t106 t110 t111 _ ?side1 ?side2 A10.out).mono ?_); (case side1 => repeat (first | exact (Kd.R_reads' HO109.out).2.2 | (with_reducible refine Kd.C_alloc ?_ _) | (with_reducible refine Kd.C_drewN ?_ _) | (with_reducible refine Kd.C_drew ?_))); (case side2 => exact (Kd.R_reads' HO109.out).2.1); rintro e w19 ⟨v112, rfl, ho0, hb⟩; have n0_ := Aside0.mk (Kd.R_below (by (with_reducible repeat (first | apply Kd.R_alloc | apply Kd.R_drewN | apply Kd.R_drew)); exact HO103.out) hb); have n1_ := Aside0.mk (Kd.R_elder' (by (with_reducible repeat (first | apply Kd.R_alloc | apply Kd.R_drewN | apply Kd.R_drew)); exact HO109.out) (Kd.R_base ho0) hb); have n2_ := Aside0.mk (Kd.R_lower (Kd.R_new' ho0 (Kd.R_lt (by (with_reducible repeat (first | apply Kd.R_alloc | apply Kd.R_drewN | apply Kd.R_drew)); exact HO109.out))) (below_size (by repeat (first | (with_reducible first | exact HB.out | apply below_alloc | apply pw_below_drewN | apply below_drew1) | exact HB.out)))); have n3_ := Aside0.mk (below_step (by repeat (first | (with_reducible first | exact HB.out | apply below_alloc | apply pw_below_drewN | apply below_drew1) | exact HB.out)) hb); clear HO103; clear HO109; clear HB; have HO103 := n0_; have HO109 := n1_; have HO113 := n2_; have HB := n3_; clear n0_ n1_ n2_ n3_; (try clear hb); (try clear hb2); (try clear hk); (try clear hi); (try clear ho0)) | (go_at_call 16; (with_reducible refine (turn_Bits.calls k 1 ji4 (Int.tmod (wrap64 ((Int.tmod a1 (rd y101 (ji4))) + (rd y101 (ji4)))) (rd y101 (ji4))) _ _ l2 t114 t115 _ ?side1 ?side2 A11.out).mono ?_); (case side1 => repeat (first | exact (Kd.C_below HR2.out HB.out) | (with_reducible refine Kd.C_alloc ?_ _) | (with_reducible refine Kd.C_drewN ?_ _) | (with_reducible refine Kd.C_drew ?_))); (case side2 => exact HC2.out); rintro e w20 ⟨v116, rfl, ho0, hb⟩; have n0_ := Aside0.mk (Kd.R_below (by (with_reducible repeat (first | apply Kd.R_alloc | apply Kd.R_drewN | apply Kd.R_drew)); exact HO103.out) hb); have n1_ := Aside0.mk (Kd.R_elder' (by (with_reducible repeat (first | apply Kd.R_alloc | apply Kd.R_drewN | apply Kd.R_drew)); exact HO109.out) (Kd.R_base ho0) hb); have n2_ := Aside0.mk (Kd.R_elder' (by (with_reducible repeat (first | apply Kd.R_alloc | apply Kd.R_drewN | apply Kd.R_drew)); exact HO113.out) (Kd.R_base ho0) hb); have n3_ := Aside0.mk (Kd.R_lower (Kd.R_new' (Kd.R_new' ho0 (Kd.R_lt (by (with_reducible repeat (first | apply Kd.R_alloc | apply Kd.R_drewN | apply Kd.R_drew)); exact HO109.out))) (Kd.R_lt (by (with_reducible repeat (first | apply Kd.R_alloc | apply Kd.R_drewN | apply Kd.R_drew)); exact HO113.out))) (below_size (by repeat (first | (with_reducible first | exact HB.out | apply below_alloc | apply pw_below_drewN | apply below_drew1) | exact HB.out)))); have n4_ := Aside0.mk (below_step (by repeat (first | (with_reducible first | exact HB.out | apply below_alloc | apply pw_below_drewN | apply below_drew1) | exact HB.out)) hb); clear HO103; clear HO109; clear HO113; clear HB; have HO103 := n0_; have HO109 := n1_; have HO113 := n2_; have HO117 := n3_; have HB := n4_; clear n0_ n1_ n2_ n3_ n4_; (try clear hb); (try clear hb2); (try clear hk); (try clear hi); (try clear ho0); obtain ⟨Ao21, co21, eo21⟩ := Kd.R_slice HO117.out; subst eo21) | (go_at_call 16; (with_reducible refine (turn_Bits.calls k 2 ji4 (Int.tmod (wrap64 ((Int.tmod a1 (rd y101 (ji4))) + (rd y101 (ji4)))) (rd y101 (ji4))) _ _ t114 t118 t119 _ ?side1 ?side2 A12.out).mono ?_); (case side1 => repeat (first | exact (Kd.R_reads' HO117.out).2.2 | (with_reducible refine Kd.C_alloc ?_ _) | (with_reducible refine Kd.C_drewN ?_ _) | (with_reducible refine Kd.C_drew ?_))); (case side2 => exact (Kd.R_reads' HO117.out).2.1); rintro e w22 ⟨v120, rfl, ho0, hb⟩; have n0_ := Aside0.mk (Kd.R_below (by (with_reducible repeat (first | apply Kd.R_alloc | apply Kd.R_drewN | apply Kd.R_drew)); exact HO103.out) hb); have n1_ := Aside0.mk (Kd.R_elder' (by (with_reducible repeat (first | apply Kd.R_alloc | apply Kd.R_drewN | apply Kd.R_drew)); exact HO109.out) (Kd.R_base ho0) hb); have n2_ := Aside0.mk (Kd.R_elder' (by (with_reducible repeat (first | apply Kd.R_alloc | apply Kd.R_drewN | apply Kd.R_drew)); exact HO113.out) (Kd.R_base ho0) hb); have n3_ := Aside0.mk (Kd.R_elder' (by (with_reducible repeat (first | apply Kd.R_alloc | apply Kd.R_drewN | apply Kd.R_drew)); exact HO117.out) (Kd.R_base ho0) hb); have n4_ := Aside0.mk (Kd.R_lower (Kd.R_new' (Kd.R_new' (Kd.R_new' ho0 (Kd.R_lt (by (with_reducible repeat (first | apply Kd.R_alloc | apply Kd.R_drewN | apply Kd.R_drew)); exact HO109.out))) (Kd.R_lt (by (with_reducible repeat (first | apply Kd.R_alloc | apply Kd.R_drewN | apply Kd.R_drew)); exact HO113.out))) (Kd.R_lt (by (with_reducible repeat (first | apply Kd.R_alloc | apply Kd.R_drewN | apply Kd.R_drew)); exact HO117.out))) (below_size (by repeat (first | (with_reducible first | exact HB.out | apply below_alloc | apply pw_below_drewN | apply below_drew1) | exact HB.out)))); have n5_ := Aside0.mk (below_step (by repeat (first | (with_reducible first | exact HB.out | apply below_alloc | apply pw_below_drewN | apply below_drew1) | exact HB.out)) hb); clear HO103; clear HO109; clear HO113; clear HO117; clear HB; have HO103 := n0_; have HO109 := n1_; have HO113 := n2_; have HO117 := n3_; have HO121 := n4_; have HB := n5_; clear n0_ n1_ n2_ n3_ n4_ n5_; (try clear hb); (try clear hb2); (try clear hk); (try clear hi); (try clear ho0))); go_upto_region 10 with (first | ((with_reducible refine gate_dst (N := 21) rfl ?_); (try (refine gate_guard (by rfl) ?_; dsimp only)); refine Kd.R_lit (Kd.int .i64) _ 3 ?hg (N := 21) ?hd (xs := ([1, 2, 4, 8, 16, 32, 64] : List Int)) (inner := [.int .i64 1, .int .i64 2, .int .i64 4, .int .i64 8, .int .i64 16, .int .i64 32, .int .i64 64]) (ok := fun _ => True) (okp := fun _ => True) ?hr ?hp (fun _ hk => hk) trivial (Below.refl _ _) (Nat.le_refl _) (by simp) ?_; (case hd => rfl); (case hg => rfl); (case hr => first | (go_simp; done) | (go_simp; rfl)); (case hp => exact (Reps.one (show Kd.M (Kd.int .i64) _ _ _ 1 [.int .i64 1] from rfl) (Reps.one (show Kd.M (Kd.int .i64) _ _ _ 2 [.int .i64 2] from rfl) (Reps.one (show Kd.M (Kd.int .i64) _ _ _ 4 [.int .i64 4] from rfl) (Reps.one (show Kd.M (Kd.int .i64) _ _ _ 8 [.int .i64 8] from rfl) (Reps.one (show Kd.M (Kd.int .i64) _ _ _ 16 [.int .i64 16] from rfl) (Reps.one (show Kd.M (Kd.int .i64) _ _ _ 32 [.int .i64 32] from rfl) (Reps.one (show Kd.M (Kd.int .i64) _ _ _ 64 [.int .i64 64] from rfl) (Reps.none _ _))))))))); intro v102 w14 ho15 hb hg_ hnew_; clear hg_ hnew_; (first | rw [← Ny101.out] at ho15 | (simp only [Int.reduceToNat] at ho15; rw [← Ny101.out] at ho15)); have n0_ := Aside0.mk (Kd.R_lower ho15 (below_size (by repeat (first | (with_reducible first | exact HB.out | apply below_alloc | apply pw_below_drewN | apply below_drew1) | exact HB.out)))); have n1_ := Aside0.mk (below_step (by repeat (first | (with_reducible first | exact HB.out | apply below_alloc | apply pw_below_drewN | apply below_drew1) | exact HB.out)) hb); clear HB; have HO103 := n0_; have HB := n1_; clear n0_ n1_; clear hb ho15; obtain ⟨Ao16, co16, eo16⟩ := Kd.R_slice HO103.out; subst eo16; have p104 : 0 ≤ ((ji4) : Int) := of_decide_eq_true (by first | (with_reducible assumption) | assumption); have q104 : (ji4) < (y101.length : Int) := of_decide_eq_true (by first | (with_reducible assumption) | assumption); obtain ⟨ad104, e104, hx104_0⟩ := Kd.at_int (Kd.R_reads' HO103.out).2.2 (ji4) p104 q104; cases e104; replace p104 := eq_true p104; replace q104 := eq_true q104) | (go_at_call 16; (with_reducible refine (turn_Bits.calls k 3 ji4 (Int.tmod (wrap64 ((Int.tmod a1 (rd y101 (ji4))) + (rd y101 (ji4)))) (rd y101 (ji4))) _ _ l2 t106 t107 _ ?side1 ?side2 A9.out).mono ?_); (case side1 => repeat (first | exact (Kd.C_below HR2.out HB.out) | (with_reducible refine Kd.C_alloc ?_ _) | (with_reducible refine Kd.C_drewN ?_ _) | (with_reducible refine Kd.C_drew ?_))); (case side2 => exact HC2.out); rintro e w17 ⟨v108, rfl, ho0, hb⟩; have n0_ := Aside0.mk (Kd.R_below (by (with_reducible repeat (first | apply Kd.R_alloc | apply Kd.R_drewN | apply Kd.R_drew)); exact HO103.out) hb); have n1_ := Aside0.mk (Kd.R_lower ho0 (below_size (by repeat (first | (with_reducible first | exact HB.out | apply below_alloc | apply pw_below_drewN | apply below_drew1) | exact HB.out)))); have n2_ := Aside0.mk (below_step (by repeat (first | (with_reducible first | exact HB.out | apply below_alloc | apply pw_below_drewN | apply below_drew1) | exact HB.out)) hb); clear HO103; clear HB; have HO103 := n0_; have HO109 := n1_; have HB := n2_; clear n0_ n1_ n2_; (try clear hb); (try clear hb2); (try clear hk); (try clear hi); (try clear ho0); obtain ⟨Ao18, co18, eo18⟩ := Kd.R_slice HO109.out; subst eo18) | (go_at_call 16; (with_reducible refine (turn_Bits.calls k 3 ji4 (Int.tmod (wrap64 ((rd y101 (ji4)) - (Int.tmod (wrap64 ((Int.tmod a1 (rd y101 (ji4))) + (rd y101 (ji4)))) (rd y101 (ji4))))) (rd y101 (ji4))) _ _ t106 t110 t111 _ ?side1 ?side2 A10.out).mono ?_); (case side1 => repeat (first | exact (Kd.R_reads' HO109.out).2.2 | (with_reducible refine Kd.C_alloc ?_ _) | (with_reducible refine Kd.C_drewN ?_ _) | (with_reducible refine Kd.C_drew ?_))); (case side2 => exact (Kd.R_reads' HO109.out).2.1); rintro e w19 ⟨v112, rfl, ho0, hb⟩; have n0_ := Aside0.mk (Kd.R_below (by (with_reducible repeat (first | apply Kd.R_alloc | apply Kd.R_drewN | apply Kd.R_drew)); exact HO103.out) hb); have n1_ := Aside0.mk (Kd.R_elder' (by (with_reducible repeat (first | apply Kd.R_alloc | apply Kd.R_drewN | apply Kd.R_drew)); exact HO109.out) (Kd.R_base ho0) hb); have n2_ := Aside0.mk (Kd.R_lower (Kd.R_new' ho0 (Kd.R_lt (by (with_reducible repeat (first | apply Kd.R_alloc | apply Kd.R_drewN | apply Kd.R_drew)); exact HO109.out))) (below_size (by repeat (first | (with_reducible first | exact HB.out | apply below_alloc | apply pw_below_drewN | apply below_drew1) | exact HB.out)))); have n3_ := Aside0.mk (below_step (by repeat (first | (with_reducible first | exact HB.out | apply below_alloc | apply pw_below_drewN | apply below_drew1) | exact HB.out)) hb); clear HO103; clear HO109; clear HB; have HO103 := n0_; have HO109 := n1_; have HO113 := n2_; have HB := n3_; clear n0_ n1_ n2_ n3_; (try clear hb); (try clear hb2); (try clear hk); (try clear hi); (try clear ho0)) | (go_at_call 16; (with_reducible refine (turn_Bits.calls k 1 ji4 (Int.tmod (wrap64 ((Int.tmod a1 (rd y101 (ji4))) + (rd y101 (ji4)))) (rd y101 (ji4))) _ _ l2 t114 t115 _ ?side1 ?side2 A11.out).mono ?_); (case side1 => repeat (first | exact (Kd.C_below HR2.out HB.out) | (with_reducible refine Kd.C_alloc ?_ _) | (with_reducible refine Kd.C_drewN ?_ _) | (with_reducible refine Kd.C_drew ?_))); (case side2 => exact HC2.out); rintro e w20 ⟨v116, rfl, ho0, hb⟩; have n0_ := Aside0.mk (Kd.R_below (by (with_reducible repeat (first | apply Kd.R_alloc | apply Kd.R_drewN | apply Kd.R_drew)); exact HO103.out) hb); have n1_ := Aside0.mk (Kd.R_elder' (by (with_reducible repeat (first | apply Kd.R_alloc | apply Kd.R_drewN | apply Kd.R_drew)); exact HO109.out) (Kd.R_base ho0) hb); have n2_ := Aside0.mk (Kd.R_elder' (by (with_reducible repeat (first | apply Kd.R_alloc | apply Kd.R_drewN | apply Kd.R_drew)); exact HO113.out) (Kd.R_base ho0) hb); have n3_ := Aside0.mk (Kd.R_lower (Kd.R_new' (Kd.R_new' ho0 (Kd.R_lt (by (with_reducible repeat (first | apply Kd.R_alloc | apply Kd.R_drewN | apply Kd.R_drew)); exact HO109.out))) (Kd.R_lt (by (with_reducible repeat (first | apply Kd.R_alloc | apply Kd.R_drewN | apply Kd.R_drew)); exact HO113.out))) (below_size (by repeat (first | (with_reducible first | exact HB.out | apply below_alloc | apply pw_below_drewN | apply below_drew1) | exact HB.out)))); have n4_ := Aside0.mk (below_step (by repeat (first | (with_reducible first | exact HB.out | apply below_alloc | apply pw_below_drewN | apply below_drew1) | exact HB.out)) hb); clear HO103; clear HO109; clear HO113; clear HB; have HO103 := n0_; have HO109 := n1_; have HO113 := n2_; have HO117 := n3_; have HB := n4_; clear n0_ n1_ n2_ n3_ n4_; (try clear hb); (try clear hb2); (try clear hk); (try clear hi); (try clear ho0); obtain ⟨Ao21, co21, eo21⟩ := Kd.R_slice HO117.out; subst eo21) | (go_at_call 16; (with_reducible refine (turn_Bits.calls k 2 ji4 (Int.tmod (wrap64 ((Int.tmod a1 (rd y101 (ji4))) + (rd y101 (ji4)))) (rd y101 (ji4))) _ _ t114 t118 t119 _ ?side1 ?side2 A12.out).mono ?_); (case side1 => repeat (first | exact (Kd.R_reads' HO117.out).2.2 | (with_reducible refine Kd.C_alloc ?_ _) | (with_reducible refine Kd.C_drewN ?_ _) | (with_reducible refine Kd.C_drew ?_))); (case side2 => exact (Kd.R_reads' HO117.out).2.1); rintro e w22 ⟨v120, rfl, ho0, hb⟩; have n0_ := Aside0.mk (Kd.R_below (by (with_reducible repeat (first | apply Kd.R_alloc | apply Kd.R_drewN | apply Kd.R_drew)); exact HO103.out) hb); have n1_ := Aside0.mk (Kd.R_elder' (by (with_reducible repeat (first | apply Kd.R_alloc | apply Kd.R_drewN | apply Kd.R_drew)); exact HO109.out) (Kd.R_base ho0) hb); have n2_ := Aside0.mk (Kd.R_elder' (by (with_reducible repeat (first | apply Kd.R_alloc | apply Kd.R_drewN | apply Kd.R_drew)); exact HO113.out) (Kd.R_base ho0) hb); have n3_ := Aside0.mk (Kd.R_elder' (by (with_reducible repeat (first | apply Kd.R_alloc | apply Kd.R_drewN | apply Kd.R_drew)); exact HO117.out) (Kd.R_base ho0) hb); have n4_ := Aside0.mk (Kd.R_lower (Kd.R_new' (Kd.R_new' (Kd.R_new' ho0 (Kd.R_lt (by (with_reducible repeat (first | apply Kd.R_alloc | apply Kd.R_drewN | apply Kd.R_drew)); exact HO109.out))) (Kd.R_lt (by (with_reducible repeat (first | apply Kd.R_alloc | apply Kd.R_drewN | apply Kd.R_drew)); exact HO113.out))) (Kd.R_lt (by (with_reducible repeat (first | apply Kd.R_alloc | apply Kd.R_drewN | apply Kd.R_drew)); exact HO117.out))) (below_size (by repeat (first | (with_reducible first | exact HB.out | apply below_alloc | apply pw_below_drewN | apply below_drew1) | exact HB.out)))); have n5_ := Aside0.mk (below_step (by repeat (first | (with_reducible first | exact HB.out | apply below_alloc | apply pw_below_drewN | apply below_drew1) | exact HB.out)) hb); clear HO103; clear HO109; clear HO113; clear HO117; clear HB; have HO103 := n0_; have HO109 := n1_; have HO113 := n2_; have HO117 := n3_; have HO121 := n4_; have HB := n5_; clear n0_ n1_ n2_ n3_ n4_ n5_; (try clear hb); (try clear hb2); (try clear hk); (try clear hi); (try clear ho0))))
          (try simp only [Act.put, List.setIfInBounds_toArray, List.set_cons_zero, List.set_cons_succ])
          go_cut [94] (fun v94 wc => ∃ (kq : Nat) (x94_12 : Bool), v94 = .bool x94_12 ∧ Aside0 (steeplelaw18_TurnBack.j0 kq (Int.tmod (wrap64 ((Int.tmod a1 (rd y101 (ji4))) + (rd y101 (ji4)))) (rd y101 (ji4))) l2 (rd y101 (ji4)) t118 x94_12 = some r) ∧ Aside0 (kq ≤ k) ∧ Aside0 (Kd.R Kd.bool 4 wc w.heap.size (fun _ => True) v120 t118) ∧ Aside0 (Below w.heap.size w wc))
          case first =>
            have H := HC13.out
            clear HC13
            by_cases c23 : t107 = 0
            · rw [if_pos c23] at H
              have c23b0 : (t107 == 0) = true := beq_iff_eq.mpr c23
              have c23b1 : (t107 != 0) = false := bne_eq_false_iff_eq.mpr c23
              clear c23
              (first | rw [c23b0] | (simp only [i64_w, i32_w]; rw [c23b0]) | skip)
              by_cases c24 : t111 = 0
              · rw [if_pos c24] at H
                have c24b0 : (t111 == 0) = true := beq_iff_eq.mpr c24
                have c24b1 : (t111 != 0) = false := bne_eq_false_iff_eq.mpr c24
                clear c24
                by_cases c25 : t115 = 0
                · rw [if_pos c25] at H
                  have c25b0 : (t115 == 0) = true := beq_iff_eq.mpr c25
                  have c25b1 : (t115 != 0) = false := bne_eq_false_iff_eq.mpr c25
                  clear c25
                  by_cases c26 : t119 = 0
                  · rw [if_pos c26] at H
                    have c26b0 : (t119 == 0) = true := beq_iff_eq.mpr c26
                    have c26b1 : (t119 != 0) = false := bne_eq_false_iff_eq.mpr c26
                    clear c26
                    replace H := Option.bind_eq_some_iff.mp H
                    obtain ⟨t122, A270, H⟩ := H
                    replace H : (if t122 = true then (steeplelaw18_TurnBack.j0 k (Int.tmod (wrap64 ((Int.tmod a1 (rd y101 (ji4))) + (rd y101 (ji4)))) (rd y101 (ji4))) l2 (rd y101 (ji4)) t118 ((t118.length : Int) != (rd y101 (ji4)))) else (steeplelaw18_TurnBack.j0 k (Int.tmod (wrap64 ((Int.tmod a1 (rd y101 (ji4))) + (rd y101 (ji4)))) (rd y101 (ji4))) l2 (rd y101 (ji4)) t118 true)) = some r := H
                    have A27 := Aside0.mk A270
                    clear A270
                    by_cases c28 : t122 = true
                    · subst c28
                      have H1 : (steeplelaw18_TurnBack.j0 k (Int.tmod (wrap64 ((Int.tmod a1 (rd y101 (ji4))) + (rd y101 (ji4)))) (rd y101 (ji4))) l2 (rd y101 (ji4)) t118 ((t118.length : Int) != (rd y101 (ji4)))) = some r := by rw [if_pos rfl] at H; exact H
                      clear H
                      have H := H1
                      clear H1
                      have H' := Aside0.mk H
                      clear H
                      obtain ⟨Ao29, co29, eo29⟩ := Kd.R_slice HO113.out
                      subst eo29
                      go_wp2_with (first | (go_at_call 21; (with_reducible refine (steeplelaw18_same.calls k _ _ t110 _ _ l2 true _ ?side1 ?side2 ?side3 ?side4 A27.out).mono ?_); (case side1 => repeat (first | exact (Kd.R_reads' HO113.out).2.2 | (with_reducible refine Kd.C_alloc ?_ _) | (with_reducible refine Kd.C_drewN ?_ _) | (with_reducible refine Kd.C_drew ?_))); (case side2 => exact (Kd.R_reads' HO113.out).2.1); (case side3 => repeat (first | exact (Kd.C_below HR2.out HB.out) | (with_reducible refine Kd.C_alloc ?_ _) | (with_reducible refine Kd.C_drewN ?_ _) | (with_reducible refine Kd.C_drew ?_))); (case side4 => exact HC2.out); rintro e w' ⟨rfl, ⟨nd, rfl⟩⟩; (try first | exact ⟨rfl, _, World.drewN_drewN _ _ _⟩ | exact ⟨rfl, _, Eq.trans (World.drewN_drewN _ _ _) (congrArg (World.drewN _) (Nat.add_assoc _ _ _))⟩); obtain ⟨Ao30, co30, eo30⟩ := Kd.R_slice HO121.out; subst eo30))
                      repeat (go_quiet (first | (go_at_call 21; (with_reducible refine (steeplelaw18_same.calls k _ _ t110 _ _ l2 true _ ?side1 ?side2 ?side3 ?side4 A27.out).mono ?_); (case side1 => repeat (first | exact (Kd.R_reads' HO113.out).2.2 | (with_reducible refine Kd.C_alloc ?_ _) | (with_reducible refine Kd.C_drewN ?_ _) | (with_reducible refine Kd.C_drew ?_))); (case side2 => exact (Kd.R_reads' HO113.out).2.1); (case side3 => repeat (first | exact (Kd.C_below HR2.out HB.out) | (with_reducible refine Kd.C_alloc ?_ _) | (with_reducible refine Kd.C_drewN ?_ _) | (with_reducible refine Kd.C_drew ?_))); (case side4 => exact HC2.out); rintro e w' ⟨rfl, ⟨nd, rfl⟩⟩; (try first | exact ⟨rfl, _, World.drewN_drewN _ _ _⟩ | exact ⟨rfl, _, Eq.trans (World.drewN_drewN _ _ _) (congrArg (World.drewN _) (Nat.add_assoc _ _ _))⟩); obtain ⟨Ao30, co30, eo30⟩ := Kd.R_slice HO121.out; subst eo30)); try go_wp2_with (first | (go_at_call 21; (with_reducible refine (steeplelaw18_same.calls k _ _ t110 _ _ l2 true _ ?side1 ?side2 ?side3 ?side4 A27.out).mono ?_); (case side1 => repeat (first | exact (Kd.R_reads' HO113.out).2.2 | (with_reducible refine Kd.C_alloc ?_ _) | (with_reducible refine Kd.C_drewN ?_ _) | (with_reducible refine Kd.C_drew ?_))); (case side2 => exact (Kd.R_reads' HO113.out).2.1); (case side3 => repeat (first | exact (Kd.C_below HR2.out HB.out) | (with_reducible refine Kd.C_alloc ?_ _) | (with_reducible refine Kd.C_drewN ?_ _) | (with_reducible refine Kd.C_drew ?_))); (case side4 => exact HC2.out); rintro e w' ⟨rfl, ⟨nd, rfl⟩⟩; (try first | exact ⟨rfl, _, World.drewN_drewN _ _ _⟩ | exact ⟨rfl, _, Eq.trans (World.drewN_drewN _ _ _) (congrArg (World.drewN _) (Nat.add_assoc _ _ _))⟩); obtain ⟨Ao30, co30, eo30⟩ := Kd.R_slice HO121.out; subst eo30)))
                      go_meet
                      case rel => exact ⟨_, (((t118.length : Int) != (rd y101 (ji4)))), (by first | rfl | (simp; done) | (simp only [← hji4] <;> (first | rfl | simp)) | (simp [*]; done)), H', ⟨by first | omega | exact Nat.le_refl _⟩, ⟨by (with_reducible repeat (first | apply Kd.R_alloc | apply Kd.R_drewN | apply Kd.R_drew)); exact Kd.R_mono HO121.out (fun _ hk => trivial)⟩, ⟨by repeat (first | (with_reducible first | exact HB.out | apply below_alloc | apply pw_below_drewN | apply below_drew1) | exact HB.out)⟩⟩
                    · replace c28 := Bool.eq_false_iff.mpr c28
                      subst c28
                      have H1 : (steeplelaw18_TurnBack.j0 k (Int.tmod (wrap64 ((Int.tmod a1 (rd y101 (ji4))) + (rd y101 (ji4)))) (rd y101 (ji4))) l2 (rd y101 (ji4)) t118 true) = some r := by rw [if_neg (show ¬ (false = true) by decide)] at H; exact H
                      clear H
                      have H := H1
                      clear H1
                      have H' := Aside0.mk H
                      clear H
                      obtain ⟨Ao31, co31, eo31⟩ := Kd.R_slice HO113.out
                      subst eo31
                      go_wp2_with (first | (go_at_call 21; (with_reducible refine (steeplelaw18_same.calls k _ _ t110 _ _ l2 false _ ?side1 ?side2 ?side3 ?side4 A27.out).mono ?_); (case side1 => repeat (first | exact (Kd.R_reads' HO113.out).2.2 | (with_reducible refine Kd.C_alloc ?_ _) | (with_reducible refine Kd.C_drewN ?_ _) | (with_reducible refine Kd.C_drew ?_))); (case side2 => exact (Kd.R_reads' HO113.out).2.1); (case side3 => repeat (first | exact (Kd.C_below HR2.out HB.out) | (with_reducible refine Kd.C_alloc ?_ _) | (with_reducible refine Kd.C_drewN ?_ _) | (with_reducible refine Kd.C_drew ?_))); (case side4 => exact HC2.out); rintro e w' ⟨rfl, ⟨nd, rfl⟩⟩; (try first | exact ⟨rfl, _, World.drewN_drewN _ _ _⟩ | exact ⟨rfl, _, Eq.trans (World.drewN_drewN _ _ _) (congrArg (World.drewN _) (Nat.add_assoc _ _ _))⟩)))
                      repeat (go_quiet (first | (go_at_call 21; (with_reducible refine (steeplelaw18_same.calls k _ _ t110 _ _ l2 false _ ?side1 ?side2 ?side3 ?side4 A27.out).mono ?_); (case side1 => repeat (first | exact (Kd.R_reads' HO113.out).2.2 | (with_reducible refine Kd.C_alloc ?_ _) | (with_reducible refine Kd.C_drewN ?_ _) | (with_reducible refine Kd.C_drew ?_))); (case side2 => exact (Kd.R_reads' HO113.out).2.1); (case side3 => repeat (first | exact (Kd.C_below HR2.out HB.out) | (with_reducible refine Kd.C_alloc ?_ _) | (with_reducible refine Kd.C_drewN ?_ _) | (with_reducible refine Kd.C_drew ?_))); (case side4 => exact HC2.out); rintro e w' ⟨rfl, ⟨nd, rfl⟩⟩; (try first | exact ⟨rfl, _, World.drewN_drewN _ _ _⟩ | exact ⟨rfl, _, Eq.trans (World.drewN_drewN _ _ _) (congrArg (World.drewN _) (Nat.add_assoc _ _ _))⟩))); try go_wp2_with (first | (go_at_call 21; (with_reducible refine (steeplelaw18_same.calls k _ _ t110 _ _ l2 false _ ?side1 ?side2 ?side3 ?side4 A27.out).mono ?_); (case side1 => repeat (first | exact (Kd.R_reads' HO113.out).2.2 | (with_reducible refine Kd.C_alloc ?_ _) | (with_reducible refine Kd.C_drewN ?_ _) | (with_reducible refine Kd.C_drew ?_))); (case side2 => exact (Kd.R_reads' HO113.out).2.1); (case side3 => repeat (first | exact (Kd.C_below HR2.out HB.out) | (with_reducible refine Kd.C_alloc ?_ _) | (with_reducible refine Kd.C_drewN ?_ _) | (with_reducible refine Kd.C_drew ?_))); (case side4 => exact HC2.out); rintro e w' ⟨rfl, ⟨nd, rfl⟩⟩; (try first | exact ⟨rfl, _, World.drewN_drewN _ _ _⟩ | exact ⟨rfl, _, Eq.trans (World.drewN_drewN _ _ _) (congrArg (World.drewN _) (Nat.add_assoc _ _ _))⟩))))
                      go_meet
                      case rel => exact ⟨_, (true), (by first | rfl | (simp; done) | (simp [*]; done)), H', ⟨by first | omega | exact Nat.le_refl _⟩, ⟨by (with_reducible repeat (first | apply Kd.R_alloc | apply Kd.R_drewN | apply Kd.R_drew)); exact Kd.R_mono HO121.out (fun _ hk => trivial)⟩, ⟨by repeat (first | (with_reducible first | exact HB.out | apply below_alloc | apply pw_below_drewN | apply below_drew1) | exact HB.out)⟩⟩
                  · rw [if_neg c26] at H
                    have c26b0 : (t119 == 0) = false := beq_eq_false_iff_ne.mpr c26
                    have c26b1 : (t119 != 0) = true := bne_iff_ne.mpr c26
                    have H' := Aside0.mk H
                    clear H
                    go_wp2
                    repeat (go_quiet (fail); try go_wp2)
                    go_meet
                    case rel => exact ⟨_, (true), (by first | rfl | (simp; done) | (simp [*]; done)), H', ⟨by first | omega | exact Nat.le_refl _⟩, ⟨by (with_reducible repeat (first | apply Kd.R_alloc | apply Kd.R_drewN | apply Kd.R_drew)); exact Kd.R_mono HO121.out (fun _ hk => trivial)⟩, ⟨by repeat (first | (with_reducible first | exact HB.out | apply below_alloc | apply pw_below_drewN | apply below_drew1) | exact HB.out)⟩⟩
                · rw [if_neg c25] at H
                  have c25b0 : (t115 == 0) = false := beq_eq_false_iff_ne.mpr c25
                  have c25b1 : (t115 != 0) = true := bne_iff_ne.mpr c25
                  have H' := Aside0.mk H
                  clear H
                  go_wp2
                  repeat (go_quiet (fail); try go_wp2)
                  go_meet
                  case rel => exact ⟨_, (true), (by first | rfl | (simp; done) | (simp [*]; done)), H', ⟨by first | omega | exact Nat.le_refl _⟩, ⟨by (with_reducible repeat (first | apply Kd.R_alloc | apply Kd.R_drewN | apply Kd.R_drew)); exact Kd.R_mono HO121.out (fun _ hk => trivial)⟩, ⟨by repeat (first | (with_reducible first | exact HB.out | apply below_alloc | apply pw_below_drewN | apply below_drew1) | exact HB.out)⟩⟩
              · rw [if_neg c24] at H
                have c24b0 : (t111 == 0) = false := beq_eq_false_iff_ne.mpr c24
                have c24b1 : (t111 != 0) = true := bne_iff_ne.mpr c24
                have H' := Aside0.mk H
                clear H
                go_wp2
                repeat (go_quiet (fail); try go_wp2)
                go_meet
                case rel => exact ⟨_, (true), (by first | rfl | (simp; done) | (simp [*]; done)), H', ⟨by first | omega | exact Nat.le_refl _⟩, ⟨by (with_reducible repeat (first | apply Kd.R_alloc | apply Kd.R_drewN | apply Kd.R_drew)); exact Kd.R_mono HO121.out (fun _ hk => trivial)⟩, ⟨by repeat (first | (with_reducible first | exact HB.out | apply below_alloc | apply pw_below_drewN | apply below_drew1) | exact HB.out)⟩⟩
            · rw [if_neg c23] at H
              have c23b0 : (t107 == 0) = false := beq_eq_false_iff_ne.mpr c23
              have c23b1 : (t107 != 0) = true := bne_iff_ne.mpr c23
              (first | rw [c23b0] | (simp only [i64_w, i32_w]; rw [c23b0]) | skip)
              have H' := Aside0.mk H
              clear H
              go_wp2
              repeat (go_quiet (fail); try go_wp2)
              go_meet
              case rel => exact ⟨_, (true), (by first | rfl | (simp; done) | (simp [*]; done)), H', ⟨by first | omega | exact Nat.le_refl _⟩, ⟨by (with_reducible repeat (first | apply Kd.R_alloc | apply Kd.R_drewN | apply Kd.R_drew)); exact Kd.R_mono HO121.out (fun _ hk => trivial)⟩, ⟨by repeat (first | (with_reducible first | exact HB.out | apply below_alloc | apply pw_below_drewN | apply below_drew1) | exact HB.out)⟩⟩
          case rest =>
            clear HC13
            try clear p1
            try clear q1
            try clear hx1
            try clear c2
            try clear p2
            try clear c4
            try clear c5
            try clear c5b0
            try clear c6
            try clear c6b0
            try clear p6
            try clear c7
            try clear c7b0
            try clear c7b1
            try clear c8
            try clear c8b0
            try clear c8b1
            try clear p10
            try clear q10
            try clear hx10
            try clear c23
            try clear c23b0
            try clear c23b1
            try clear c24
            try clear c24b0
            try clear c24b1
            try clear c25
            try clear c25b0
            try clear c25b1
            try clear c26
            try clear c26b0
            try clear c26b1
            try clear c28
            try clear hx104_0
            try clear p104
            try clear q104
            obtain ⟨kq, x94_12, rfl, HA, HJ12, HO_14, HB⟩ := hcut
            cases kq with
            | zero => exact absurd HA.out (by simp [steeplelaw18_TurnBack.j0])
            | succ kj12 =>
              have H := HA.out
              clear HA
              simp only [steeplelaw18_TurnBack.j0] at H
              by_cases c32 : x94_12 = true
              · subst c32
                have H1 : (some false) = some r := by rw [if_pos rfl] at H; exact H
                clear H
                have H := H1
                clear H1
                obtain rfl := Option.some.inj H
                go_wp2
                repeat (go_quiet (fail); try go_wp2)
                go_ret
                exact ⟨by first | rfl | (simp [errW_none, errW_some] <;> rfl) | (simp only [← hji4]; first | rfl | (simp [errW_none, errW_some] <;> rfl)) | (simp [*, errW_none, errW_some] <;> rfl), by repeat (first | (with_reducible first | exact HB.out | apply below_alloc | apply pw_below_drewN | apply below_drew1) | exact HB.out)⟩
              · replace c32 := Bool.eq_false_iff.mpr c32
                subst c32
                have H1 : (steeplelaw18_TurnBack.l0 kj12 (Int.tmod (wrap64 ((Int.tmod a1 (rd y101 (ji4))) + (rd y101 (ji4)))) (rd y101 (ji4))) l2 (rd y101 (ji4)) t118 0) = some r := by rw [if_neg (show ¬ (false = true) by decide)] at H; exact H
                clear H
                have H := H1
                clear H1
                have H' := Aside0.mk H
                clear H
                go_wp2
                repeat (go_quiet (fail); try go_wp2)
                go_loopg [16] kj12 (fun kq v16 w' => ∃ (x16_2 : Int), v16 = .int .i64 x16_2 ∧ Aside0 (steeplelaw18_TurnBack.l0 kq (Int.tmod (wrap64 ((Int.tmod a1 (rd y101 (ji4))) + (rd y101 (ji4)))) (rd y101 (ji4))) l2 (rd y101 (ji4)) t118 x16_2 = some r) ∧ Aside0 (kq ≤ kj12) ∧ Aside0 (Kd.R Kd.bool 4 w' w.heap.size (fun _ => True) v120 t118) ∧ Aside0 (Below w.heap.size w w'))
                case atStart => exact ⟨(0), (by first | rfl | (simp; done) | (simp [*]; done)), H', ⟨Nat.le_refl _⟩, ⟨by (with_reducible repeat (first | apply Kd.R_alloc | apply Kd.R_drewN | apply Kd.R_drew)); exact HO_14.out⟩, ⟨by repeat (first | (with_reducible first | exact HB.out | apply below_alloc | apply pw_below_drewN | apply below_drew1) | exact HB.out)⟩⟩
                case round =>
                  clear H'
                  try clear p1
                  try clear q1
                  try clear hx1
                  try clear c2
                  try clear p2
                  try clear c3
                  try clear c4
                  try clear c5
                  try clear c5b0
                  try clear c6
                  try clear c6b0
                  try clear p6
                  try clear c7
                  try clear c7b0
                  try clear c7b1
                  try clear c8
                  try clear c8b0
                  try clear c8b1
                  try clear p10
                  try clear q10
                  try clear hx10
                  try clear c23
                  try clear c23b0
                  try clear c23b1
                  try clear c24
                  try clear c24b0
                  try clear c24b1
                  try clear c25
                  try clear c25b0
                  try clear c25b1
                  try clear c26
                  try clear c26b0
                  try clear c26b1
                  try clear c28
                  try clear c32
                  try clear hx104_0
                  try clear p1
                  try clear p10
                  try clear p104
                  try clear p2
                  try clear p6
                  try clear q1
                  try clear q10
                  try clear q104
                  obtain ⟨x16_2, rfl, HA, HK2, HO_14, HB⟩ := hrel
                  cases gk with
                  | zero => exact absurd HA.out (by simp [steeplelaw18_TurnBack.l0])
                  | succ k2 =>
                    have H := HA.out
                    clear HA
                    simp only [steeplelaw18_TurnBack.l0] at H
                    by_cases c33 : x16_2 < (rd y101 (ji4))
                    · rw [if_pos c33] at H
                      have c33b0 : decide (x16_2 < (rd y101 (ji4))) = true := decide_eq_true c33
                      clear c33
                      by_cases c34 : 0 ≤ x16_2
                      · rw [if_pos c34] at H
                        have c34b0 : decide (0 ≤ x16_2) = true := decide_eq_true c34
                        clear c34
                        by_cases c35 : x16_2 < (t118.length : Int)
                        · rw [if_pos c35] at H
                          have c35b0 : decide (x16_2 < (t118.length : Int)) = true := decide_eq_true c35
                          clear c35
                          by_cases c36 : x16_2 < (l2.length : Int)
                          · rw [if_pos c36] at H
                            have c36b0 : decide (x16_2 < (l2.length : Int)) = true := decide_eq_true c36
                            clear c36
                            obtain ⟨bq37, hbq37⟩ : ∃ b_ : Bool, b_ = (rdOf false l2 x16_2) := ⟨_, rfl⟩
                            replace H : (if bq37 = true then (if ((rdOf false t118 x16_2) != (decide (x16_2 < (wrap64 ((rd y101 (ji4)) - (Int.tmod (wrap64 ((Int.tmod a1 (rd y101 (ji4))) + (rd y101 (ji4)))) (rd y101 (ji4)))))))) = true then (some false) else (steeplelaw18_TurnBack.l0 k2 (Int.tmod (wrap64 ((Int.tmod a1 (rd y101 (ji4))) + (rd y101 (ji4)))) (rd y101 (ji4))) l2 (rd y101 (ji4)) t118 (wrap64 (x16_2 + 1)))) else (if ((rdOf false t118 x16_2) != false) = true then (some false) else (steeplelaw18_TurnBack.l0 k2 (Int.tmod (wrap64 ((Int.tmod a1 (rd y101 (ji4))) + (rd y101 (ji4)))) (rd y101 (ji4))) l2 (rd y101 (ji4)) t118 (wrap64 (x16_2 + 1))))) = some r := by rw [← hbq37] at H; exact H
                            have Nbq37 := Aside0.mk hbq37
                            clear hbq37
                            by_cases c38 : bq37 = true
                            · subst c38
                              have H1 : (if ((rdOf false t118 x16_2) != (decide (x16_2 < (wrap64 ((rd y101 (ji4)) - (Int.tmod (wrap64 ((Int.tmod a1 (rd y101 (ji4))) + (rd y101 (ji4)))) (rd y101 (ji4)))))))) = true then (some false) else (steeplelaw18_TurnBack.l0 k2 (Int.tmod (wrap64 ((Int.tmod a1 (rd y101 (ji4))) + (rd y101 (ji4)))) (rd y101 (ji4))) l2 (rd y101 (ji4)) t118 (wrap64 (x16_2 + 1)))) = some r := by rw [if_pos rfl] at H; exact H
                              clear H
                              have H := H1
                              clear H1
                              by_cases c39 : ((rdOf false t118 x16_2) != (decide (x16_2 < (wrap64 ((rd y101 (ji4)) - (Int.tmod (wrap64 ((Int.tmod a1 (rd y101 (ji4))) + (rd y101 (ji4)))) (rd y101 (ji4)))))))) = true
                              · rw [if_pos c39] at H
                                have c39b0 : ((rdOf false t118 x16_2) != (decide (x16_2 < (wrap64 ((rd y101 (ji4)) - (Int.tmod (wrap64 ((Int.tmod a1 (rd y101 (ji4))) + (rd y101 (ji4)))) (rd y101 (ji4)))))))) = true := c39
                                (try (have c39b1 : decide ((rdOf false t118 x16_2) = (decide (x16_2 < (wrap64 ((rd y101 (ji4)) - (Int.tmod (wrap64 ((Int.tmod a1 (rd y101 (ji4))) + (rd y101 (ji4)))) (rd y101 (ji4)))))))) = false := by simpa using c39))
                                (try (have c39b2 : ((rdOf false t118 x16_2) == (decide (x16_2 < (wrap64 ((rd y101 (ji4)) - (Int.tmod (wrap64 ((Int.tmod a1 (rd y101 (ji4))) + (rd y101 (ji4)))) (rd y101 (ji4)))))))) = false := by simpa using c39))
                                (try (have c39b3 : ¬ ((rdOf false t118 x16_2) = (decide (x16_2 < (wrap64 ((rd y101 (ji4)) - (Int.tmod (wrap64 ((Int.tmod a1 (rd y101 (ji4))) + (rd y101 (ji4)))) (rd y101 (ji4)))))))) := by simpa using c39))
                                clear c39
                                obtain rfl := Option.some.inj H
                                obtain ⟨Ao40, co40, eo40⟩ := Kd.R_slice HO_14.out
                                subst eo40
                                have p123 : 0 ≤ (x16_2 : Int) := of_decide_eq_true (by first | (with_reducible assumption) | assumption)
                                have q123 : x16_2 < (t118.length : Int) := of_decide_eq_true (by first | (with_reducible assumption) | assumption)
                                obtain ⟨ad123, e123, hx123_0⟩ := Kd.at_bool (Kd.R_reads' HO_14.out).2.2 x16_2 p123 q123
                                (try rw [← Nbq37.out] at hx123_0)
                                cases e123
                                replace p123 := eq_true p123
                                replace q123 := eq_true q123
                                have p124 : 0 ≤ (x16_2 : Int) := of_decide_eq_true (by first | (with_reducible assumption) | assumption)
                                have q124 : x16_2 < (l2.length : Int) := of_decide_eq_true (by first | (with_reducible assumption) | assumption)
                                obtain ⟨ad124, e124, hx124_0⟩ := Kd.at_bool HR2.out x16_2 p124 q124
                                (try rw [← Nbq37.out] at hx124_0)
                                cases e124
                                replace hx124_0 := (HB.out.cell (World.block_lt_of_cell? w _ hx124_0)).trans hx124_0
                                replace p124 := eq_true p124
                                replace q124 := eq_true q124
                                go_wp2
                                repeat (go_quiet (fail); try go_wp2)
                                go_ret
                                exact ⟨by first | rfl | (simp [errW_none, errW_some] <;> rfl) | (simp only [← hji4]; first | rfl | (simp [errW_none, errW_some] <;> rfl)) | (simp [*, errW_none, errW_some] <;> rfl), by repeat (first | (with_reducible first | exact HB.out | apply below_alloc | apply pw_below_drewN | apply below_drew1) | exact HB.out)⟩
                              · rw [if_neg c39] at H
                                have c39b0 : ((rdOf false t118 x16_2) != (decide (x16_2 < (wrap64 ((rd y101 (ji4)) - (Int.tmod (wrap64 ((Int.tmod a1 (rd y101 (ji4))) + (rd y101 (ji4)))) (rd y101 (ji4)))))))) = false := by simpa using c39
                                (try (have c39b1 : decide ((rdOf false t118 x16_2) = (decide (x16_2 < (wrap64 ((rd y101 (ji4)) - (Int.tmod (wrap64 ((Int.tmod a1 (rd y101 (ji4))) + (rd y101 (ji4)))) (rd y101 (ji4)))))))) = true := by simpa using c39))
                                (try (have c39b2 : ((rdOf false t118 x16_2) == (decide (x16_2 < (wrap64 ((rd y101 (ji4)) - (Int.tmod (wrap64 ((Int.tmod a1 (rd y101 (ji4))) + (rd y101 (ji4)))) (rd y101 (ji4)))))))) = true := by simpa using c39))
                                clear c39
                                have H' := Aside0.mk H
                                clear H
                                obtain ⟨Ao41, co41, eo41⟩ := Kd.R_slice HO_14.out
                                subst eo41
                                have p123 : 0 ≤ (x16_2 : Int) := of_decide_eq_true (by first | (with_reducible assumption) | assumption)
                                have q123 : x16_2 < (t118.length : Int) := of_decide_eq_true (by first | (with_reducible assumption) | assumption)
                                obtain ⟨ad123, e123, hx123_0⟩ := Kd.at_bool (Kd.R_reads' HO_14.out).2.2 x16_2 p123 q123
                                (try rw [← Nbq37.out] at hx123_0)
                                cases e123
                                replace p123 := eq_true p123
                                replace q123 := eq_true q123
                                have p124 : 0 ≤ (x16_2 : Int) := of_decide_eq_true (by first | (with_reducible assumption) | assumption)
                                have q124 : x16_2 < (l2.length : Int) := of_decide_eq_true (by first | (with_reducible assumption) | assumption)
                                obtain ⟨ad124, e124, hx124_0⟩ := Kd.at_bool HR2.out x16_2 p124 q124
                                (try rw [← Nbq37.out] at hx124_0)
                                cases e124
                                replace hx124_0 := (HB.out.cell (World.block_lt_of_cell? w _ hx124_0)).trans hx124_0
                                replace p124 := eq_true p124
                                replace q124 := eq_true q124
                                go_wp2
                                repeat (go_quiet (fail); try go_wp2)
                                go_roundg k2
                                case measure => have := HJ12.out; have := HK2.out; omega
                                case rel => exact ⟨(wrap64 (x16_2 + 1)), (by first | rfl | (simp; done) | (simp [*]; done)), H', ⟨by have := HJ12.out; have := HK2.out; omega⟩, ⟨by (with_reducible repeat (first | apply Kd.R_alloc | apply Kd.R_drewN | apply Kd.R_drew)); exact HO_14.out⟩, ⟨by repeat (first | (with_reducible first | exact HB.out | apply below_alloc | apply pw_below_drewN | apply below_drew1) | exact HB.out)⟩⟩
                            · replace c38 := Bool.eq_false_iff.mpr c38
                              subst c38
                              have H1 : (if ((rdOf false t118 x16_2) != false) = true then (some false) else (steeplelaw18_TurnBack.l0 k2 (Int.tmod (wrap64 ((Int.tmod a1 (rd y101 (ji4))) + (rd y101 (ji4)))) (rd y101 (ji4))) l2 (rd y101 (ji4)) t118 (wrap64 (x16_2 + 1)))) = some r := by rw [if_neg (show ¬ (false = true) by decide)] at H; exact H
                              clear H
                              have H := H1
                              clear H1
                              by_cases c42 : ((rdOf false t118 x16_2) != false) = true
                              · rw [if_pos c42] at H
                                have c42b0 : ((rdOf false t118 x16_2) != false) = true := c42
                                (try (have c42b1 : decide ((rdOf false t118 x16_2) = false) = false := by simpa using c42))
                                (try (have c42b2 : ((rdOf false t118 x16_2) == false) = false := by simpa using c42))
                                (try (have c42b3 : ¬ ((rdOf false t118 x16_2) = false) := by simpa using c42))
                                clear c42
                                obtain rfl := Option.some.inj H
                                obtain ⟨Ao43, co43, eo43⟩ := Kd.R_slice HO_14.out
                                subst eo43
                                have p123 : 0 ≤ (x16_2 : Int) := of_decide_eq_true (by first | (with_reducible assumption) | assumption)
                                have q123 : x16_2 < (t118.length : Int) := of_decide_eq_true (by first | (with_reducible assumption) | assumption)
                                obtain ⟨ad123, e123, hx123_0⟩ := Kd.at_bool (Kd.R_reads' HO_14.out).2.2 x16_2 p123 q123
                                (try rw [← Nbq37.out] at hx123_0)
                                cases e123
                                replace p123 := eq_true p123
                                replace q123 := eq_true q123
                                have p124 : 0 ≤ (x16_2 : Int) := of_decide_eq_true (by first | (with_reducible assumption) | assumption)
                                have q124 : x16_2 < (l2.length : Int) := of_decide_eq_true (by first | (with_reducible assumption) | assumption)
                                obtain ⟨ad124, e124, hx124_0⟩ := Kd.at_bool HR2.out x16_2 p124 q124
                                (try rw [← Nbq37.out] at hx124_0)
                                cases e124
                                replace hx124_0 := (HB.out.cell (World.block_lt_of_cell? w _ hx124_0)).trans hx124_0
                                replace p124 := eq_true p124
                                replace q124 := eq_true q124
                                go_wp2
                                repeat (go_quiet (fail); try go_wp2)
                                go_ret
                                exact ⟨by first | rfl | (simp [errW_none, errW_some] <;> rfl) | (simp only [← hji4]; first | rfl | (simp [errW_none, errW_some] <;> rfl)) | (simp [*, errW_none, errW_some] <;> rfl), by repeat (first | (with_reducible first | exact HB.out | apply below_alloc | apply pw_below_drewN | apply below_drew1) | exact HB.out)⟩
                              · rw [if_neg c42] at H
                                have c42b0 : ((rdOf false t118 x16_2) != false) = false := by simpa using c42
                                (try (have c42b1 : decide ((rdOf false t118 x16_2) = false) = true := by simpa using c42))
                                (try (have c42b2 : ((rdOf false t118 x16_2) == false) = true := by simpa using c42))
                                clear c42
                                have H' := Aside0.mk H
                                clear H
                                obtain ⟨Ao44, co44, eo44⟩ := Kd.R_slice HO_14.out
                                subst eo44
                                have p123 : 0 ≤ (x16_2 : Int) := of_decide_eq_true (by first | (with_reducible assumption) | assumption)
                                have q123 : x16_2 < (t118.length : Int) := of_decide_eq_true (by first | (with_reducible assumption) | assumption)
                                obtain ⟨ad123, e123, hx123_0⟩ := Kd.at_bool (Kd.R_reads' HO_14.out).2.2 x16_2 p123 q123
                                (try rw [← Nbq37.out] at hx123_0)
                                cases e123
                                replace p123 := eq_true p123
                                replace q123 := eq_true q123
                                have p124 : 0 ≤ (x16_2 : Int) := of_decide_eq_true (by first | (with_reducible assumption) | assumption)
                                have q124 : x16_2 < (l2.length : Int) := of_decide_eq_true (by first | (with_reducible assumption) | assumption)
                                obtain ⟨ad124, e124, hx124_0⟩ := Kd.at_bool HR2.out x16_2 p124 q124
                                (try rw [← Nbq37.out] at hx124_0)
                                cases e124
                                replace hx124_0 := (HB.out.cell (World.block_lt_of_cell? w _ hx124_0)).trans hx124_0
                                replace p124 := eq_true p124
                                replace q124 := eq_true q124
                                go_wp2
                                repeat (go_quiet (fail); try go_wp2)
                                go_roundg k2
                                case measure => have := HJ12.out; have := HK2.out; omega
                                case rel => exact ⟨(wrap64 (x16_2 + 1)), (by first | rfl | (simp; done) | (simp [*]; done)), H', ⟨by have := HJ12.out; have := HK2.out; omega⟩, ⟨by (with_reducible repeat (first | apply Kd.R_alloc | apply Kd.R_drewN | apply Kd.R_drew)); exact HO_14.out⟩, ⟨by repeat (first | (with_reducible first | exact HB.out | apply below_alloc | apply pw_below_drewN | apply below_drew1) | exact HB.out)⟩⟩
                          · rw [if_neg c36] at H
                            exact absurd H (by simp)
                        · rw [if_neg c35] at H
                          exact absurd H (by simp)
                      · rw [if_neg c34] at H
                        exact absurd H (by simp)
                    · rw [if_neg c33] at H
                      have c33b0 : decide (x16_2 < (rd y101 (ji4))) = false := decide_eq_false c33
                      clear c33
                      replace H := Option.bind_eq_some_iff.mp H
                      obtain ⟨t125, A450, H⟩ := H
                      replace H : (some t125) = some r := H
                      have A45 := Aside0.mk A450
                      clear A450
                      obtain rfl := Option.some.inj H
                      go_wp2_with (first | (go_at_call 15; (with_reducible refine (steeplelaw18_awake.calls k2  t125 _ A45.out).mono ?_); rintro e w46 ⟨rfl, hb⟩; have n0_ := Aside0.mk (Kd.R_below (by (with_reducible repeat (first | apply Kd.R_alloc | apply Kd.R_drewN | apply Kd.R_drew)); exact HO_14.out) hb); have n1_ := Aside0.mk (below_step (by repeat (first | (with_reducible first | exact HB.out | apply below_alloc | apply pw_below_drewN | apply below_drew1) | exact HB.out)) hb); clear HO_14; clear HB; have HO_14 := n0_; have HB := n1_; clear n0_ n1_; (try clear hb); (try clear hb2); (try clear hk); (try clear hi)))
                      repeat (go_quiet (first | (go_at_call 15; (with_reducible refine (steeplelaw18_awake.calls k2  t125 _ A45.out).mono ?_); rintro e w46 ⟨rfl, hb⟩; have n0_ := Aside0.mk (Kd.R_below (by (with_reducible repeat (first | apply Kd.R_alloc | apply Kd.R_drewN | apply Kd.R_drew)); exact HO_14.out) hb); have n1_ := Aside0.mk (below_step (by repeat (first | (with_reducible first | exact HB.out | apply below_alloc | apply pw_below_drewN | apply below_drew1) | exact HB.out)) hb); clear HO_14; clear HB; have HO_14 := n0_; have HB := n1_; clear n0_ n1_; (try clear hb); (try clear hb2); (try clear hk); (try clear hi))); try go_wp2_with (first | (go_at_call 15; (with_reducible refine (steeplelaw18_awake.calls k2  t125 _ A45.out).mono ?_); rintro e w46 ⟨rfl, hb⟩; have n0_ := Aside0.mk (Kd.R_below (by (with_reducible repeat (first | apply Kd.R_alloc | apply Kd.R_drewN | apply Kd.R_drew)); exact HO_14.out) hb); have n1_ := Aside0.mk (below_step (by repeat (first | (with_reducible first | exact HB.out | apply below_alloc | apply pw_below_drewN | apply below_drew1) | exact HB.out)) hb); clear HO_14; clear HB; have HO_14 := n0_; have HB := n1_; clear n0_ n1_; (try clear hb); (try clear hb2); (try clear hk); (try clear hi))))
                      go_ret
                      exact ⟨by first | rfl | (simp [errW_none, errW_some] <;> rfl) | (simp only [← hji4]; first | rfl | (simp [errW_none, errW_some] <;> rfl)) | (simp [*, errW_none, errW_some] <;> rfl), by repeat (first | (with_reducible first | exact HB.out | apply below_alloc | apply pw_below_drewN | apply below_drew1) | exact HB.out)⟩
        · rw [if_neg c8] at H
          have c8b0 : ((l2.length : Int) == (rd y101 (ji4))) = false := beq_eq_false_iff_ne.mpr c8
          have c8b1 : ((l2.length : Int) != (rd y101 (ji4))) = true := bne_iff_ne.mpr c8
          replace H := Option.bind_eq_some_iff.mp H
          obtain ⟨t105, A470, H⟩ := H
          replace H : (some t105) = some r := H
          have A47 := Aside0.mk A470
          clear A470
          obtain rfl := Option.some.inj H
          go_enter Try.func4, Try.ntmps4
          go_wp2_with (first | ((with_reducible refine gate_dst (N := 21) rfl ?_); (try (refine gate_guard (by rfl) ?_; dsimp only)); refine Kd.R_lit (Kd.int .i64) _ 3 ?hg (N := 21) ?hd (xs := ([1, 2, 4, 8, 16, 32, 64] : List Int)) (inner := [.int .i64 1, .int .i64 2, .int .i64 4, .int .i64 8, .int .i64 16, .int .i64 32, .int .i64 64]) (ok := fun _ => True) (okp := fun _ => True) ?hr ?hp (fun _ hk => hk) trivial (Below.refl _ _) (Nat.le_refl _) (by simp) ?_; (case hd => rfl); (case hg => rfl); (case hr => first | (go_simp; done) | (go_simp; rfl)); (case hp => exact (Reps.one (show Kd.M (Kd.int .i64) _ _ _ 1 [.int .i64 1] from rfl) (Reps.one (show Kd.M (Kd.int .i64) _ _ _ 2 [.int .i64 2] from rfl) (Reps.one (show Kd.M (Kd.int .i64) _ _ _ 4 [.int .i64 4] from rfl) (Reps.one (show Kd.M (Kd.int .i64) _ _ _ 8 [.int .i64 8] from rfl) (Reps.one (show Kd.M (Kd.int .i64) _ _ _ 16 [.int .i64 16] from rfl) (Reps.one (show Kd.M (Kd.int .i64) _ _ _ 32 [.int .i64 32] from rfl) (Reps.one (show Kd.M (Kd.int .i64) _ _ _ 64 [.int .i64 64] from rfl) (Reps.none _ _))))))))); intro v102 w48 ho49 hb hg_ hnew_; clear hg_ hnew_; (first | rw [← Ny101.out] at ho49 | (simp only [Int.reduceToNat] at ho49; rw [← Ny101.out] at ho49)); have n0_ := Aside0.mk (Kd.R_lower ho49 (below_size (by repeat (first | (with_reducible first | exact HB.out | apply below_alloc | apply pw_below_drewN | apply below_drew1) | exact HB.out)))); have n1_ := Aside0.mk (below_step (by repeat (first | (with_reducible first | exact HB.out | apply below_alloc | apply pw_below_drewN | apply below_drew1) | exact HB.out)) hb); clear HB; have HO103 := n0_; have HB := n1_; clear n0_ n1_; clear hb ho49; obtain ⟨Ao50, co50, eo50⟩ := Kd.R_slice HO103.out; subst eo50; have p104 : 0 ≤ ((ji4) : Int) := of_decide_eq_true (by first | (with_reducible assumption) | assumption); have q104 : (ji4) < (y101.length : Int) := of_decide_eq_true (by first | (with_reducible assumption) | assumption); obtain ⟨ad104, e104, hx104_0⟩ := Kd.at_int (Kd.R_reads' HO103.out).2.2 (ji4) p104 q104; cases e104; replace p104 := eq_true p104; replace q104 := eq_true q104) | (go_at_call 15; (with_reducible refine (steeplelaw18_awake.calls k  t105 _ A47.out).mono ?_); rintro e w51 ⟨rfl, hb⟩; have n0_ := Aside0.mk (Kd.R_below (by (with_reducible repeat (first | apply Kd.R_alloc | apply Kd.R_drewN | apply Kd.R_drew)); exact HO103.out) hb); have n1_ := Aside0.mk (below_step (by repeat (first | (with_reducible first | exact HB.out | apply below_alloc | apply pw_below_drewN | apply below_drew1) | exact HB.out)) hb); clear HO103; clear HB; have HO103 := n0_; have HB := n1_; clear n0_ n1_; (try clear hb); (try clear hb2); (try clear hk); (try clear hi)))
          repeat (go_quiet (first | ((with_reducible refine gate_dst (N := 21) rfl ?_); (try (refine gate_guard (by rfl) ?_; dsimp only)); refine Kd.R_lit (Kd.int .i64) _ 3 ?hg (N := 21) ?hd (xs := ([1, 2, 4, 8, 16, 32, 64] : List Int)) (inner := [.int .i64 1, .int .i64 2, .int .i64 4, .int .i64 8, .int .i64 16, .int .i64 32, .int .i64 64]) (ok := fun _ => True) (okp := fun _ => True) ?hr ?hp (fun _ hk => hk) trivial (Below.refl _ _) (Nat.le_refl _) (by simp) ?_; (case hd => rfl); (case hg => rfl); (case hr => first | (go_simp; done) | (go_simp; rfl)); (case hp => exact (Reps.one (show Kd.M (Kd.int .i64) _ _ _ 1 [.int .i64 1] from rfl) (Reps.one (show Kd.M (Kd.int .i64) _ _ _ 2 [.int .i64 2] from rfl) (Reps.one (show Kd.M (Kd.int .i64) _ _ _ 4 [.int .i64 4] from rfl) (Reps.one (show Kd.M (Kd.int .i64) _ _ _ 8 [.int .i64 8] from rfl) (Reps.one (show Kd.M (Kd.int .i64) _ _ _ 16 [.int .i64 16] from rfl) (Reps.one (show Kd.M (Kd.int .i64) _ _ _ 32 [.int .i64 32] from rfl) (Reps.one (show Kd.M (Kd.int .i64) _ _ _ 64 [.int .i64 64] from rfl) (Reps.none _ _))))))))); intro v102 w48 ho49 hb hg_ hnew_; clear hg_ hnew_; (first | rw [← Ny101.out] at ho49 | (simp only [Int.reduceToNat] at ho49; rw [← Ny101.out] at ho49)); have n0_ := Aside0.mk (Kd.R_lower ho49 (below_size (by repeat (first | (with_reducible first | exact HB.out | apply below_alloc | apply pw_below_drewN | apply below_drew1) | exact HB.out)))); have n1_ := Aside0.mk (below_step (by repeat (first | (with_reducible first | exact HB.out | apply below_alloc | apply pw_below_drewN | apply below_drew1) | exact HB.out)) hb); clear HB; have HO103 := n0_; have HB := n1_; clear n0_ n1_; clear hb ho49; obtain ⟨Ao50, co50, eo50⟩ := Kd.R_slice HO103.out; subst eo50; have p104 : 0 ≤ ((ji4) : Int) := of_decide_eq_true (by first | (with_reducible assumption) | assumption); have q104 : (ji4) < (y101.length : Int) := of_decide_eq_true (by first | (with_reducible assumption) | assumption); obtain ⟨ad104, e104, hx104_0⟩ := Kd.at_int (Kd.R_reads' HO103.out).2.2 (ji4) p104 q104; cases e104; replace p104 := eq_true p104; replace q104 := eq_true q104) | (go_at_call 15; (with_reducible refine (steeplelaw18_awake.calls k  t105 _ A47.out).mono ?_); rintro e w51 ⟨rfl, hb⟩; have n0_ := Aside0.mk (Kd.R_below (by (with_reducible repeat (first | apply Kd.R_alloc | apply Kd.R_drewN | apply Kd.R_drew)); exact HO103.out) hb); have n1_ := Aside0.mk (below_step (by repeat (first | (with_reducible first | exact HB.out | apply below_alloc | apply pw_below_drewN | apply below_drew1) | exact HB.out)) hb); clear HO103; clear HB; have HO103 := n0_; have HB := n1_; clear n0_ n1_; (try clear hb); (try clear hb2); (try clear hk); (try clear hi))); try go_wp2_with (first | ((with_reducible refine gate_dst (N := 21) rfl ?_); (try (refine gate_guard (by rfl) ?_; dsimp only)); refine Kd.R_lit (Kd.int .i64) _ 3 ?hg (N := 21) ?hd (xs := ([1, 2, 4, 8, 16, 32, 64] : List Int)) (inner := [.int .i64 1, .int .i64 2, .int .i64 4, .int .i64 8, .int .i64 16, .int .i64 32, .int .i64 64]) (ok := fun _ => True) (okp := fun _ => True) ?hr ?hp (fun _ hk => hk) trivial (Below.refl _ _) (Nat.le_refl _) (by simp) ?_; (case hd => rfl); (case hg => rfl); (case hr => first | (go_simp; done) | (go_simp; rfl)); (case hp => exact (Reps.one (show Kd.M (Kd.int .i64) _ _ _ 1 [.int .i64 1] from rfl) (Reps.one (show Kd.M (Kd.int .i64) _ _ _ 2 [.int .i64 2] from rfl) (Reps.one (show Kd.M (Kd.int .i64) _ _ _ 4 [.int .i64 4] from rfl) (Reps.one (show Kd.M (Kd.int .i64) _ _ _ 8 [.int .i64 8] from rfl) (Reps.one (show Kd.M (Kd.int .i64) _ _ _ 16 [.int .i64 16] from rfl) (Reps.one (show Kd.M (Kd.int .i64) _ _ _ 32 [.int .i64 32] from rfl) (Reps.one (show Kd.M (Kd.int .i64) _ _ _ 64 [.int .i64 64] from rfl) (Reps.none _ _))))))))); intro v102 w48 ho49 hb hg_ hnew_; clear hg_ hnew_; (first | rw [← Ny101.out] at ho49 | (simp only [Int.reduceToNat] at ho49; rw [← Ny101.out] at ho49)); have n0_ := Aside0.mk (Kd.R_lower ho49 (below_size (by repeat (first | (with_reducible first | exact HB.out | apply below_alloc | apply pw_below_drewN | apply below_drew1) | exact HB.out)))); have n1_ := Aside0.mk (below_step (by repeat (first | (with_reducible first | exact HB.out | apply below_alloc | apply pw_below_drewN | apply below_drew1) | exact HB.out)) hb); clear HB; have HO103 := n0_; have HB := n1_; clear n0_ n1_; clear hb ho49; obtain ⟨Ao50, co50, eo50⟩ := Kd.R_slice HO103.out; subst eo50; have p104 : 0 ≤ ((ji4) : Int) := of_decide_eq_true (by first | (with_reducible assumption) | assumption); have q104 : (ji4) < (y101.length : Int) := of_decide_eq_true (by first | (with_reducible assumption) | assumption); obtain ⟨ad104, e104, hx104_0⟩ := Kd.at_int (Kd.R_reads' HO103.out).2.2 (ji4) p104 q104; cases e104; replace p104 := eq_true p104; replace q104 := eq_true q104) | (go_at_call 15; (with_reducible refine (steeplelaw18_awake.calls k  t105 _ A47.out).mono ?_); rintro e w51 ⟨rfl, hb⟩; have n0_ := Aside0.mk (Kd.R_below (by (with_reducible repeat (first | apply Kd.R_alloc | apply Kd.R_drewN | apply Kd.R_drew)); exact HO103.out) hb); have n1_ := Aside0.mk (below_step (by repeat (first | (with_reducible first | exact HB.out | apply below_alloc | apply pw_below_drewN | apply below_drew1) | exact HB.out)) hb); clear HO103; clear HB; have HO103 := n0_; have HB := n1_; clear n0_ n1_; (try clear hb); (try clear hb2); (try clear hk); (try clear hi))))
          go_ret
          exact ⟨by first | rfl | (simp [errW_none, errW_some] <;> rfl) | (simp only [← hji4]; first | rfl | (simp [errW_none, errW_some] <;> rfl)) | (simp [*, errW_none, errW_some] <;> rfl), by repeat (first | (with_reducible first | exact HB.out | apply below_alloc | apply pw_below_drewN | apply below_drew1) | exact HB.out)⟩
    · rw [if_neg c6] at H
      exact absurd H (by simp)
  · rw [if_neg c5] at H
    exact absurd H (by simp)

end Go.Proofs.Ytngcaphdkgihmaa.P

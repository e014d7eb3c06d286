/- Own text: merged by pack2.py. -/
import Derived.Test.YtbapldgapbmdkaaMBa
import Derived.Test.YtbapldgapbmdkaaMBb
import Derived.Test.YtbapldgapbmdkaaMBc
import Derived.Test.YtbapldgapbmdkaaMFa
set_option linter.unusedSimpArgs false
set_option linter.unusedVariables false
namespace Go.Proofs.Ytbapldgapbmdkaa.B
open Go.Proofs.Ytbapldgapbmdkaa.V.B Go.RowKit
set_option linter.unusedVariables false
/-! ### steeple/steepleref06.Degree: function 47 -/
def steepleref06_Degree.l4 : Nat → List S48 → Int → Int → Int → Int → Option Int
  | 0, _, _, _, _, _ => none
  | k + 1, x0, x1, x2, x3, x4 => if x2 < (x0.length : Int) then (if 0 ≤ x2 then (if x2 < (x0.length : Int) then (if (rd48 x0 x2).f0 = x3 ∧ (rd48 x0 x2).f1 = x4 then steepleref06_Degree.l4 k x0 x1 (wrap64 (x2 + 1)) x3 x4 else steepleref06_Degree.l4 k x0 x2 (wrap64 (x2 + 1)) x3 x4) else none) else none) else some x1
def steepleref06_Degree.f (k : Nat) (a0 : List S48) : Option Int := steepleref06_Degree.l4 k a0 (-1) 0 0 0
def steepleref06_Degree.sig (k : Nat) : Sig E.toTys := ⟨[.slice (.st 4)], [(false, .int .i64)], none, fun x => f k x.1⟩
noncomputable def steepleref06_Degree.body : Code := Try.f47.body.getD .skip
def steepleref06_Degree.calls (k : Nat) : List (Nat × Sig E.toTys) := []
def steepleref06_Degree.cuts : List (Cut E (RT E.toTys [(false, .int .i64)])) := [⟨true, 4, ⟨cat [.one (.val (.slice (.st 4)))] (cat (ds 2) (cat [.one (.val (.int .i64)), .one (.ptr 0 0), .one (.val (.int .i64))] (ds 14))), [.var [.val (.int .u64), .val (.int .u64)]], false⟩, fun k x => steepleref06_Degree.l4 k x.1.1 x.1.2.1 x.1.2.2.1 x.2.1.1 x.2.1.2.1⟩]
theorem steepleref06_Degree.ok (k : Nat) : Okf (XR E) Try.prog 47 (steepleref06_Degree.sig k) := ⟨fn_ok (C := fun k => tab.ctx fun f => lk f (steepleref06_Degree.calls k)) (fun k => tie _) k (fun j hj => calls_ok (kn)) 400 Try.func47 (body := steepleref06_Degree.body) (res := [.tmp 2]) rfl (by kernel_rfl) steepleref06_Degree.cuts (kc ⟨by kernel_rfl, rfl, fun _ => rfl, fun _ _ => by kernel_rfl⟩ (kn)) (fun x => by kernel_rfl), _, Try.func47, by kernel_rfl, by kernel_rfl⟩
/-! ### steeple/steeplelaw06.NovelBack: function 10 -/
def steeplelaw06_NovelBack.j10 : Nat → Option Bool
  | 0 => none
  | k + 1 => some false
def steeplelaw06_NovelBack.f (k : Nat) (a0 : S63) : Option Bool := (steeplelaw06_Poly_made.f k a0).bind fun r0 => (match r0 with | none => (steeplelaw06_awake.f k).bind fun r1 => some r1 | some _ => (novel_Powers.f k r0 a0.f1).bind fun r2 => (novel_From.f k r0 r2.1).bind fun r3 => (novel_From.f k r0 a0.f1).bind fun r4 => (novel_Powers.f k r0 r4.1).bind fun r5 => (steeplelaw01_Ref.f k a0.f1).bind fun r6 => if r2.2 = 0 then (if r3.2 = 0 then (if r4.2 = 0 then (if r5.2 = 0 then ((steeplelaw01_Same.f k r3.1 r6).bind fun r7 => if (!r7) = true then steeplelaw06_NovelBack.j10 k else (steeplelaw01_Same.f k r5.1 r6).bind fun r8 => if (!r8) = true then steeplelaw06_NovelBack.j10 k else (steeplelaw06_awake.f k).bind fun r9 => if r9 = true then ((novel_At.f k a0.f0.f0 r2.1 a0.f2).bind fun r10 => (novel_Eval.f k r0 a0.f1 a0.f2).bind fun r11 => if r10.f0 = r11.f0 ∧ r10.f1 = r11.f1 then ((novel_Degree.f k r2.1).bind fun r12 => (steepleref06_Degree.f k r6).bind fun r13 => if r12 = r13 then ((novel_Eval.f k r0 r4.1 a0.f2).bind fun r14 => (novel_At.f k a0.f0.f0 a0.f1 a0.f2).bind fun r15 => some (decide (r14.f0 = r15.f0 ∧ r14.f1 = r15.f1))) else some false) else some false) else some false) else steeplelaw06_NovelBack.j10 k) else steeplelaw06_NovelBack.j10 k) else steeplelaw06_NovelBack.j10 k) else steeplelaw06_NovelBack.j10 k)
def steeplelaw06_NovelBack.sig (k : Nat) : Sig E.toTys := ⟨[.st 6], [(false, .bool)], none, fun x => f k x.1⟩
noncomputable def steeplelaw06_NovelBack.body : Code := Try.f10.body.getD .skip
def steeplelaw06_NovelBack.calls (k : Nat) : List (Nat × Sig E.toTys) := [(44, steeplelaw06_Poly_made.sig k), (38, steeplelaw06_awake.sig k), (40, novel_Powers.sig k), (41, novel_From.sig k), (20, steeplelaw01_Ref.sig k), (19, steeplelaw01_Same.sig k), (45, novel_At.sig k), (42, novel_Eval.sig k), (46, novel_Degree.sig k), (47, steepleref06_Degree.sig k)]
def steeplelaw06_NovelBack.cuts : List (Cut E (RT E.toTys [(false, .bool)])) := [⟨false, 10, ⟨ds 113, [], false⟩, fun k x => steeplelaw06_NovelBack.j10 k⟩]
theorem steeplelaw06_NovelBack.ok (k : Nat) : Okf (XR E) Try.prog 10 (steeplelaw06_NovelBack.sig k) := ⟨fn_ok (C := fun k => tab.ctx fun f => lk f (steeplelaw06_NovelBack.calls k)) (fun k => tie _) k (fun j hj => calls_ok (kc (steeplelaw06_Poly_made.ok j) (kc (steeplelaw06_awake.ok j) (kc (novel_Powers.ok j) (kc (novel_From.ok j) (kc (steeplelaw01_Ref.ok j) (kc (steeplelaw01_Same.ok j) (kc (novel_At.ok j) (kc (novel_Eval.ok j) (kc (novel_Degree.ok j) (kc (steepleref06_Degree.ok j) (kn)))))))))))) 400 Try.func10 (body := steeplelaw06_NovelBack.body) (res := [.tmp 2]) rfl (by kernel_rfl) steeplelaw06_NovelBack.cuts (kc ⟨by kernel_rfl, rfl, fun _ => rfl, fun _ _ => by kernel_rfl⟩ (kn)) (fun x => by kernel_rfl), _, Try.func10, by kernel_rfl, by kernel_rfl⟩
/-! ### steeple/steeplelaw09.Few: function 48 -/
def steeplelaw09_Few.l4 : Nat → List (List S34) → Int → Int → Option Bool
  | 0, _, _, _ => none
  | k + 1, x0, x1, x2 => if x2 < (x0.length : Int) then (if 0 ≤ x2 then (if x2 < (x0.length : Int) then (if ((rdL x0 x2).length : Int) > x1 then some false else steeplelaw09_Few.l4 k x0 x1 (wrap64 (x2 + 1))) else none) else none) else some true
def steeplelaw09_Few.f (k : Nat) (a0 : List (List S34)) (a1 : Int) (a2 : Int) : Option Bool := if (a0.length : Int) > a1 then some false else steeplelaw09_Few.l4 k a0 a2 0
def steeplelaw09_Few.sig (k : Nat) : Sig E.toTys := ⟨[.slice (.slice (.st 1)), .int .i64, .int .i64], [(false, .bool)], none, fun x => f k x.1 x.2.1 x.2.2.1⟩
noncomputable def steeplelaw09_Few.body : Code := Try.f48.body.getD .skip
def steeplelaw09_Few.calls (k : Nat) : List (Nat × Sig E.toTys) := []
def steeplelaw09_Few.cuts : List (Cut E (RT E.toTys [(false, .bool)])) := [⟨true, 4, ⟨cat [.one (.val (.slice (.slice (.st 1))))] (cat (ds 1) (cat [.one (.val (.int .i64))] (cat (ds 4) (cat [.one (.val (.int .i64))] (ds 17))))), [], false⟩, fun k x => steeplelaw09_Few.l4 k x.1.1 x.1.2.1 x.1.2.2.1⟩]
theorem steeplelaw09_Few.ok (k : Nat) : Okf (XR E) Try.prog 48 (steeplelaw09_Few.sig k) := ⟨fn_ok (C := fun k => tab.ctx fun f => lk f (steeplelaw09_Few.calls k)) (fun k => tie _) k (fun j hj => calls_ok (kn)) 400 Try.func48 (body := steeplelaw09_Few.body) (res := [.tmp 6]) rfl (by kernel_rfl) steeplelaw09_Few.cuts (kc ⟨by kernel_rfl, rfl, fun _ => rfl, fun _ _ => by kernel_rfl⟩ (kn)) (fun x => by kernel_rfl), _, Try.func48, by kernel_rfl, by kernel_rfl⟩
/-! ### steeple/weave.ask: function 110 -/
def weave_ask.f (k : Nat) (a0 : Int) (a1 : Int) : Option Int := (octet_Wide.f k a0).bind fun r0 => if r0 = 0 then some 1 else (octet_Wide.f k a1).bind fun r1 => if r1 = 0 then some 1 else if a1 < a0 then some 1 else some 0
def weave_ask.sig (k : Nat) : Sig E.toTys := ⟨[.int .i64, .int .i64], [(false, .int .i64)], none, fun x => f k x.1 x.2.1⟩
noncomputable def weave_ask.body : Code := Try.f110.body.getD .skip
def weave_ask.calls (k : Nat) : List (Nat × Sig E.toTys) := [(64, octet_Wide.sig k)]
def weave_ask.cuts : List (Cut E (RT E.toTys [(false, .int .i64)])) := []
theorem weave_ask.ok (k : Nat) : Okf (XR E) Try.prog 110 (weave_ask.sig k) := ⟨fn_ok (C := fun k => tab.ctx fun f => lk f (weave_ask.calls k)) (fun k => tie _) k (fun j hj => calls_ok (kc (octet_Wide.ok j) (kn))) 400 Try.func110 (body := weave_ask.body) (res := [.tmp 4]) rfl (by kernel_rfl) weave_ask.cuts (kn) (fun x => by kernel_rfl), _, Try.func110, by kernel_rfl, by kernel_rfl⟩
/-! ### steeple/weave.of$1: function 114 -/
def weave_of_1.f (k : Nat) (a0 : S34) (a1 : Option Int) : Option Bool := (match a1 with | none => none | some r0 => (octet_Of.f k r0 a0).bind fun r1 => some (!r1))
def weave_of_1.sig (k : Nat) : Sig E.toTys := ⟨[.st 1, .ptr (.int .i64)], [(false, .bool)], none, fun x => f k x.1 x.2.1⟩
noncomputable def weave_of_1.body : Code := Try.f114.body.getD .skip
def weave_of_1.calls (k : Nat) : List (Nat × Sig E.toTys) := [(67, octet_Of.sig k)]
def weave_of_1.cuts : List (Cut E (RT E.toTys [(false, .bool)])) := []
theorem weave_of_1.ok (k : Nat) : Okf (XR E) Try.prog 114 (weave_of_1.sig k) := ⟨fn_ok (C := fun k => tab.ctx fun f => lk f (weave_of_1.calls k)) (fun k => tie _) k (fun j hj => calls_ok (kc (octet_Of.ok j) (kn))) 400 Try.func114 (body := weave_of_1.body) (res := [.tmp 3]) rfl (by kernel_rfl) weave_of_1.cuts (kn) (fun x => by kernel_rfl), _, Try.func114, by kernel_rfl, by kernel_rfl⟩
/-! ### slices.IndexFunc: function 116 -/
def slices_IndexFunc116_c114.l2 : Nat → List S34 → Int → Int → Int → Option Int
  | 0, _, _, _, _ => none
  | k + 1, x0, x1, x2, x3 => if x3 < x2 then (if 0 ≤ x3 then (if x3 < (x0.length : Int) then ((weave_of_1.f k (rd34 x0 x3) (some x1)).bind fun r0 => if r0 = true then some x3 else slices_IndexFunc116_c114.l2 k x0 x1 x2 (wrap64 (x3 + 1))) else none) else none) else some (-1)
def slices_IndexFunc116_c114.f (k : Nat) (a0 : List S34) (a1 : Int) : Option Int := slices_IndexFunc116_c114.l2 k a0 a1 (a0.length : Int) 0
def slices_IndexFunc116_c114.sig (k : Nat) : Sig E.toTys := ⟨[.slice (.st 1), .ext 114 (.int .i64)], [(false, .int .i64)], none, fun x => f k x.1 x.2.1⟩
noncomputable def slices_IndexFunc116_c114.body : Code := Try.f116.body.getD .skip
def slices_IndexFunc116_c114.calls (k : Nat) : List (Nat × Sig E.toTys) := [(114, weave_of_1.sig k)]
def slices_IndexFunc116_c114.cuts : List (Cut E (RT E.toTys [(false, .int .i64)])) := [⟨true, 2, ⟨cat [.one (.val (.slice (.st 1))), .one (.val (.ext 114 (.int .i64)))] (cat (ds 5) (cat [.one (.val (.int .i64)), .one (.val (.int .i64))] (ds 10))), [], false⟩, fun k x => slices_IndexFunc116_c114.l2 k x.1.1 x.1.2.1 x.1.2.2.1 x.1.2.2.2.1⟩]
theorem slices_IndexFunc116_c114.ok (k : Nat) : Okf (XR E) Try.prog 116 (slices_IndexFunc116_c114.sig k) := ⟨fn_ok (C := fun k => tab.ctx fun f => lk f (slices_IndexFunc116_c114.calls k)) (fun k => tie _) k (fun j hj => calls_ok (kc (weave_of_1.ok j) (kn))) 400 Try.func116 (body := slices_IndexFunc116_c114.body) (res := [.tmp 4]) rfl (by kernel_rfl) slices_IndexFunc116_c114.cuts (kc ⟨by kernel_rfl, rfl, fun _ => rfl, fun _ _ => by kernel_rfl⟩ (kn)) (fun x => by kernel_rfl), _, Try.func116, by kernel_rfl, by kernel_rfl⟩
/-! ### slices.ContainsFunc: function 89 -/
def slices_ContainsFunc89_c114.f (k : Nat) (a0 : List S34) (a1 : Int) : Option Bool := (slices_IndexFunc116_c114.f k a0 a1).bind fun r0 => some (decide (r0 ≥ 0))
def slices_ContainsFunc89_c114.sig (k : Nat) : Sig E.toTys := ⟨[.slice (.st 1), .ext 114 (.int .i64)], [(false, .bool)], none, fun x => f k x.1 x.2.1⟩
noncomputable def slices_ContainsFunc89_c114.body : Code := Try.f89.body.getD .skip
def slices_ContainsFunc89_c114.calls (k : Nat) : List (Nat × Sig E.toTys) := [(116, slices_IndexFunc116_c114.sig k)]
def slices_ContainsFunc89_c114.cuts : List (Cut E (RT E.toTys [(false, .bool)])) := []
theorem slices_ContainsFunc89_c114.ok (k : Nat) : Okf (XR E) Try.prog 89 (slices_ContainsFunc89_c114.sig k) := ⟨fn_ok (C := fun k => tab.ctx fun f => lk f (slices_ContainsFunc89_c114.calls k)) (fun k => tie _) k (fun j hj => calls_ok (kc (slices_IndexFunc116_c114.ok j) (kn))) 400 Try.func89 (body := slices_ContainsFunc89_c114.body) (res := [.tmp 4]) rfl (by kernel_rfl) slices_ContainsFunc89_c114.cuts (kn) (fun x => by kernel_rfl), _, Try.func89, by kernel_rfl, by kernel_rfl⟩
/-! ### steeple/weave.of: function 85 -/
def weave_of.f (k : Nat) (a0 : Int) (a1 : List S34) : Option Bool := (slices_ContainsFunc89_c114.f k a1 a0).bind fun r0 => some (!r0)
def weave_of.sig (k : Nat) : Sig E.toTys := ⟨[.int .i64, .slice (.st 1)], [(false, .bool)], none, fun x => f k x.1 x.2.1⟩
noncomputable def weave_of.body : Code := Try.f85.body.getD .skip
def weave_of.calls (k : Nat) : List (Nat × Sig E.toTys) := [(89, slices_ContainsFunc89_c114.sig k)]
def weave_of.cuts : List (Cut E (RT E.toTys [(false, .bool)])) := []
theorem weave_of.ok (k : Nat) : Okf (XR E) Try.prog 85 (weave_of.sig k) := ⟨fn_ok (C := fun k => tab.ctx fun f => lk f (weave_of.calls k)) (fun k => tie _) k (fun j hj => calls_ok (kc (slices_ContainsFunc89_c114.ok j) (kn))) 400 Try.func85 (body := weave_of.body) (res := [.tmp 4]) rfl (by kernel_rfl) weave_of.cuts (kn) (fun x => by kernel_rfl), _, Try.func85, by kernel_rfl, by kernel_rfl⟩
/-! ### steeple/weave.up: function 111 -/
def weave_up.f (k : Nat) (a0 : S34) (a1 : Int) : Option S34 := if a1 = 0 then some a0 else if a1 ≥ 64 then (if 0 ≤ wrap64 (a1 - 64) then some (⟨shl .u64 a0.f1 (wrap64 (a1 - 64)), 0⟩ : S34) else none) else if 0 ≤ a1 then (if 0 ≤ wrap64 (64 - a1) then (if 0 ≤ a1 then some (⟨bits .or .u64 (shl .u64 a0.f0 a1) (shr .u64 a0.f1 (wrap64 (64 - a1))), shl .u64 a0.f1 a1⟩ : S34) else none) else none) else none
def weave_up.sig (k : Nat) : Sig E.toTys := ⟨[.st 1, .int .i64], [(false, .st 1)], none, fun x => f k x.1 x.2.1⟩
noncomputable def weave_up.body : Code := Try.f111.body.getD .skip
def weave_up.calls (k : Nat) : List (Nat × Sig E.toTys) := []
def weave_up.cuts : List (Cut E (RT E.toTys [(false, .st 1)])) := []
theorem weave_up.ok (k : Nat) : Okf (XR E) Try.prog 111 (weave_up.sig k) := ⟨fn_ok (C := fun k => tab.ctx fun f => lk f (weave_up.calls k)) (fun k => tie _) k (fun j hj => calls_ok (kn)) 400 Try.func111 (body := weave_up.body) (res := [.cell 4 34]) rfl (by kernel_rfl) weave_up.cuts (kn) (fun x => by kernel_rfl), _, Try.func111, by kernel_rfl, by kernel_rfl⟩
/-! ### steeple/weave.Gather: function 82 -/
mutual
def weave_Gather.l11 : Nat → Int → Int → List S34 → Int → Int → List S34 → Option ((List S34) × Int)
  | 0, _, _, _, _, _, _ => none
  | k + 1, x0, x1, x2, x3, x4, x5 => if x4 < x3 then (if 0 ≤ x4 then (if x4 < (x2.length : Int) then (if x1 = 0 then none else if Int.tmod x4 x1 = 0 then (if x5.length + [(⟨0, 0⟩ : S34)].length ≤ 140737488355328 / 16 then weave_Gather.j15 k x0 x1 x4 x2 x3 x4 (x5 ++ [(⟨0, 0⟩ : S34)]) (rd34 x2 x4).f0 (rd34 x2 x4).f1 else none) else weave_Gather.j15 k x0 x1 x4 x2 x3 x4 x5 (rd34 x2 x4).f0 (rd34 x2 x4).f1) else none) else none) else some (x5, 0)
def weave_Gather.j15 : Nat → Int → Int → Int → List S34 → Int → Int → List S34 → Int → Int → Option ((List S34) × Int)
  | 0, _, _, _, _, _, _, _, _, _ => none
  | k + 1, x0, x1, x2, x3, x4, x5, x6, x7, x8 => if 0 ≤ wrap64 ((x6.length : Int) - 1) then (if wrap64 ((x6.length : Int) - 1) < (x6.length : Int) then (if x1 = 0 then none else if 0 ≤ x0 then ((weave_up.f k (⟨x7, x8⟩ : S34) (shl .i64 (Int.tmod x2 x1) x0)).bind fun r2 => (tower_Add.f k (rd34 x6 (wrap64 ((x6.length : Int) - 1))) r2).bind fun r3 => if 0 ≤ wrap64 ((x6.length : Int) - 1) then (if wrap64 ((x6.length : Int) - 1) < (x6.length : Int) then weave_Gather.l11 k x0 x1 x3 x4 (wrap64 (x5 + 1)) (x6.set (Int.toNat (wrap64 ((x6.length : Int) - 1))) r3) else none) else none) else none) else none) else none
end
def weave_Gather.f (k : Nat) (a0 : Int) (a1 : Int) (a2 : List S34) : Option ((List S34) × Int) := (weave_ask.f k a0 a1).bind fun r0 => if r0 = 0 then (if 0 ≤ wrap64 (a1 - a0) then (if shl .i64 1 (wrap64 (a1 - a0)) = 0 then none else if Int.tmod (a2.length : Int) (shl .i64 1 (wrap64 (a1 - a0))) = 0 then ((weave_of.f k a0 a2).bind fun r1 => if (!r1) = true then some ([], 5) else weave_Gather.l11 k a0 (shl .i64 1 (wrap64 (a1 - a0))) a2 (a2.length : Int) 0 []) else some ([], 6)) else none) else some ([], r0)
def weave_Gather.sig (k : Nat) : Sig E.toTys := ⟨[.int .i64, .int .i64, .slice (.st 1)], [(true, .slice (.st 1)), (false, .int .i64)], none, fun x => f k x.1 x.2.1 x.2.2.1⟩
noncomputable def weave_Gather.body : Code := Try.f82.body.getD .skip
def weave_Gather.calls (k : Nat) : List (Nat × Sig E.toTys) := [(110, weave_ask.sig k), (85, weave_of.sig k), (111, weave_up.sig k), (29, tower_Add.sig k)]
def weave_Gather.cuts : List (Cut E (RT E.toTys [(true, .slice (.st 1)), (false, .int .i64)])) := [⟨true, 11, ⟨cat [.one (.val (.int .i64))] (cat (ds 8) (cat [.one (.val (.int .i64)), .one (.ref 0)] (cat (ds 24) (cat [.one (.val (.slice (.st 1))), .one (.val (.int .i64)), .one (.val (.int .i64))] (ds 32))))), [.arr (.st 1)], false⟩, fun k x => weave_Gather.l11 k x.1.1 x.1.2.1 x.1.2.2.1 x.1.2.2.2.1 x.1.2.2.2.2.1 x.2.1⟩,
  ⟨false, 15, ⟨cat [.one (.val (.int .i64))] (cat (ds 8) (cat [.one (.val (.int .i64)), .one (.ref 0), .one (.val (.int .i64)), .one (.ptr 1 0)] (cat (ds 22) (cat [.one (.val (.slice (.st 1))), .one (.val (.int .i64)), .one (.val (.int .i64))] (ds 32))))), [.arr (.st 1), .var [.val (.int .u64), .val (.int .u64)]], false⟩, fun k x => weave_Gather.j15 k x.1.1 x.1.2.1 x.1.2.2.1 x.1.2.2.2.1 x.1.2.2.2.2.1 x.1.2.2.2.2.2.1 x.2.1 x.2.2.1.1 x.2.2.1.2.1⟩]
theorem weave_Gather.ok (k : Nat) : Okf (XR E) Try.prog 82 (weave_Gather.sig k) := ⟨fn_ok (C := fun k => tab.ctx fun f => lk f (weave_Gather.calls k)) (fun k => tie _) k (fun j hj => calls_ok (kc (weave_ask.ok j) (kc (weave_of.ok j) (kc (weave_up.ok j) (kc (tower_Add.ok j) (kn)))))) 400 Try.func82 (body := weave_Gather.body) (res := [.tmp 6, .tmp 7]) rfl (by kernel_rfl) weave_Gather.cuts (kc ⟨by kernel_rfl, rfl, fun _ => rfl, fun _ _ => by kernel_rfl⟩ (kc ⟨by kernel_rfl, rfl, fun _ => rfl, fun _ _ => by kernel_rfl⟩ (kn))) (fun x => by kernel_rfl), _, Try.func82, by kernel_rfl, by kernel_rfl⟩
/-! ### steeple/weave.Cut: function 83 -/
def weave_Cut.l8 : Nat → Int → List S34 → Int → List (List S34) → Option ((List (List S34)) × Int)
  | 0, _, _, _, _ => none
  | k + 1, x0, x1, x2, x3 => if x2 < (x1.length : Int) then (if wrap64 (x2 + x0) = wrap64 (x2 + x0) then (if 0 ≤ x2 then (if x2 ≤ wrap64 (x2 + x0) then (if wrap64 (x2 + x0) ≤ (x1.length : Int) then (if x3.length + [(x1.take (Int.toNat (wrap64 (x2 + x0)))).drop (Int.toNat x2)].length ≤ 140737488355328 / 24 then weave_Cut.l8 k x0 x1 (wrap64 (x2 + x0)) (x3 ++ [(x1.take (Int.toNat (wrap64 (x2 + x0)))).drop (Int.toNat x2)]) else none) else none) else none) else none) else none) else some (x3, 0)
def weave_Cut.f (k : Nat) (a0 : List S34) (a1 : Int) : Option ((List (List S34)) × Int) := if a1 < 1 then some ([], 1) else if a1 = 0 then none else if Int.tmod (a0.length : Int) a1 = 0 then ((slices_Clone78.f k a0).bind fun r0 => weave_Cut.l8 k a1 r0 0 []) else some ([], 6)
def weave_Cut.sig (k : Nat) : Sig E.toTys := ⟨[.slice (.st 1), .int .i64], [(true, .slice (.slice (.st 1))), (false, .int .i64)], none, fun x => f k x.1 x.2.1⟩
noncomputable def weave_Cut.body : Code := Try.f83.body.getD .skip
def weave_Cut.calls (k : Nat) : List (Nat × Sig E.toTys) := [(78, slices_Clone78.sig k)]
def weave_Cut.cuts : List (Cut E (RT E.toTys [(true, .slice (.slice (.st 1))), (false, .int .i64)])) := [⟨true, 8, ⟨cat (ds 1) (cat [.one (.val (.int .i64))] (cat (ds 4) (cat [.one (.val (.slice (.st 1))), .one (.ref 0), .one (.val (.int .i64))] (ds 31)))), [.arr (.slice (.st 1))], false⟩, fun k x => weave_Cut.l8 k x.1.1 x.1.2.1 x.1.2.2.1 x.2.1⟩]
theorem weave_Cut.ok (k : Nat) : Okf (XR E) Try.prog 83 (weave_Cut.sig k) := ⟨fn_ok (C := fun k => tab.ctx fun f => lk f (weave_Cut.calls k)) (fun k => tie _) k (fun j hj => calls_ok (kc (slices_Clone78.ok j) (kn))) 400 Try.func83 (body := weave_Cut.body) (res := [.tmp 4, .tmp 5]) rfl (by kernel_rfl) weave_Cut.cuts (kc ⟨by kernel_rfl, rfl, fun _ => rfl, fun _ _ => by kernel_rfl⟩ (kn)) (fun x => by kernel_rfl), _, Try.func83, by kernel_rfl, by kernel_rfl⟩
/-! ### steeple/steeplelaw09.awake: function 49 -/
def steeplelaw09_awake.f (k : Nat) : Option Bool := (weave_Gather.f k 1 3 [(⟨0, 1⟩ : S34), (⟨0, 2⟩ : S34), (⟨0, 3⟩ : S34), (⟨0, 0⟩ : S34)]).bind fun r0 => (weave_Cut.f k r0.1 1).bind fun r1 => if r0.2 = 0 then (if r1.2 = 0 then (if (r0.1.length : Int) = 1 then (if 0 < (r0.1.length : Int) then (if (rd34 r0.1 (0 : Int)).f0 = 0 ∧ (rd34 r0.1 (0 : Int)).f1 = 57 then some (decide ((r1.1.length : Int) = 1)) else some false) else none) else some false) else some false) else some false
def steeplelaw09_awake.sig (k : Nat) : Sig E.toTys := ⟨[], [(false, .bool)], none, fun x => f k⟩
noncomputable def steeplelaw09_awake.body : Code := Try.f49.body.getD .skip
def steeplelaw09_awake.calls (k : Nat) : List (Nat × Sig E.toTys) := [(82, (weave_Gather.sig k).weak), (83, weave_Cut.sig k)]
def steeplelaw09_awake.cuts : List (Cut E (RT E.toTys [(false, .bool)])) := []
theorem steeplelaw09_awake.ok (k : Nat) : Okf (XR E) Try.prog 49 (steeplelaw09_awake.sig k) := ⟨fn_ok (C := fun k => tab.ctx fun f => lk f (steeplelaw09_awake.calls k)) (fun k => tie _) k (fun j hj => calls_ok (kc (weave_Gather.ok j).weak (kc (weave_Cut.ok j) (kn)))) 400 Try.func49 (body := steeplelaw09_awake.body) (res := [.tmp 0]) rfl (by kernel_rfl) steeplelaw09_awake.cuts (kn) (fun x => by kernel_rfl), _, Try.func49, by kernel_rfl, by kernel_rfl⟩
/-! ### steeple/weave.Encode: function 50 -/
def weave_Encode.l3 : Nat → Option S92 → List (List S34) → Int → Int → List (List S34) → Option ((List (List S34)) × Int)
  | 0, _, _, _, _, _ => none
  | k + 1, x0, x1, x2, x3, x4 => if x3 < x2 then (if 0 ≤ x3 then (if x3 < (x1.length : Int) then ((code_Code_Encode.f k x0 (rdL x1 x3)).bind fun r0 => if r0.2 = 0 then (if x4.length + [r0.1].length ≤ 140737488355328 / 24 then weave_Encode.l3 k x0 x1 x2 (wrap64 (x3 + 1)) (x4 ++ [r0.1]) else none) else some ([], r0.2)) else none) else none) else some (x4, 0)
def weave_Encode.f (k : Nat) (a0 : Option S92) (a1 : List (List S34)) : Option ((List (List S34)) × Int) := weave_Encode.l3 k a0 a1 (a1.length : Int) 0 []
def weave_Encode.sig (k : Nat) : Sig E.toTys := ⟨[.ptr (.st 3), .slice (.slice (.st 1))], [(true, .slice (.slice (.st 1))), (false, .int .i64)], none, fun x => f k x.1 x.2.1⟩
noncomputable def weave_Encode.body : Code := Try.f50.body.getD .skip
def weave_Encode.calls (k : Nat) : List (Nat × Sig E.toTys) := [(17, code_Code_Encode.sig k)]
def weave_Encode.cuts : List (Cut E (RT E.toTys [(true, .slice (.slice (.st 1))), (false, .int .i64)])) := [⟨true, 3, ⟨cat [.one (.val (.ptr (.st 3)))] (cat (ds 5) (cat [.one (.ref 0)] (cat (ds 4) (cat [.one (.val (.slice (.slice (.st 1)))), .one (.val (.int .i64)), .one (.val (.int .i64))] (ds 18))))), [.arr (.slice (.st 1))], false⟩, fun k x => weave_Encode.l3 k x.1.1 x.1.2.1 x.1.2.2.1 x.1.2.2.2.1 x.2.1⟩]
theorem weave_Encode.ok (k : Nat) : Okf (XR E) Try.prog 50 (weave_Encode.sig k) := ⟨fn_ok (C := fun k => tab.ctx fun f => lk f (weave_Encode.calls k)) (fun k => tie _) k (fun j hj => calls_ok (kc (code_Code_Encode.ok j) (kn))) 400 Try.func50 (body := weave_Encode.body) (res := [.tmp 4, .tmp 5]) rfl (by kernel_rfl) weave_Encode.cuts (kc ⟨by kernel_rfl, rfl, fun _ => rfl, fun _ _ => by kernel_rfl⟩ (kn)) (fun x => by kernel_rfl), _, Try.func50, by kernel_rfl, by kernel_rfl⟩
/-! ### steeple/weave.even$1: function 113 -/
def weave_even_1.f (k : Nat) (a0 : List S34) (a1 : Option (List (List S34))) : Option Bool := (match a1 with | none => none | some r0 => if 0 < (r0.length : Int) then some (!decide ((a0.length : Int) = ((rdL r0 (0 : Int)).length : Int))) else none)
def weave_even_1.sig (k : Nat) : Sig E.toTys := ⟨[.slice (.st 1), .ptr (.slice (.slice (.st 1)))], [(false, .bool)], none, fun x => f k x.1 x.2.1⟩
noncomputable def weave_even_1.body : Code := Try.f113.body.getD .skip
def weave_even_1.calls (k : Nat) : List (Nat × Sig E.toTys) := []
def weave_even_1.cuts : List (Cut E (RT E.toTys [(false, .bool)])) := []
theorem weave_even_1.ok (k : Nat) : Okf (XR E) Try.prog 113 (weave_even_1.sig k) := ⟨fn_ok (C := fun k => tab.ctx fun f => lk f (weave_even_1.calls k)) (fun k => tie _) k (fun j hj => calls_ok (kn)) 400 Try.func113 (body := weave_even_1.body) (res := [.tmp 3]) rfl (by kernel_rfl) weave_even_1.cuts (kn) (fun x => by kernel_rfl), _, Try.func113, by kernel_rfl, by kernel_rfl⟩
/-! ### slices.IndexFunc: function 129 -/
def slices_IndexFunc129_c113.l2 : Nat → List (List S34) → List (List S34) → Int → Int → Option Int
  | 0, _, _, _, _ => none
  | k + 1, x0, x1, x2, x3 => if x3 < x2 then (if 0 ≤ x3 then (if x3 < (x0.length : Int) then ((weave_even_1.f k (rdL x0 x3) (some x1)).bind fun r0 => if r0 = true then some x3 else slices_IndexFunc129_c113.l2 k x0 x1 x2 (wrap64 (x3 + 1))) else none) else none) else some (-1)
def slices_IndexFunc129_c113.f (k : Nat) (a0 : List (List S34)) (a1 : List (List S34)) : Option Int := slices_IndexFunc129_c113.l2 k a0 a1 (a0.length : Int) 0
def slices_IndexFunc129_c113.sig (k : Nat) : Sig E.toTys := ⟨[.slice (.slice (.st 1)), .ext 113 (.slice (.slice (.st 1)))], [(false, .int .i64)], none, fun x => f k x.1 x.2.1⟩
noncomputable def slices_IndexFunc129_c113.body : Code := Try.f129.body.getD .skip
def slices_IndexFunc129_c113.calls (k : Nat) : List (Nat × Sig E.toTys) := [(113, weave_even_1.sig k)]
def slices_IndexFunc129_c113.cuts : List (Cut E (RT E.toTys [(false, .int .i64)])) := [⟨true, 2, ⟨cat [.one (.val (.slice (.slice (.st 1)))), .one (.val (.ext 113 (.slice (.slice (.st 1)))))] (cat (ds 5) (cat [.one (.val (.int .i64)), .one (.val (.int .i64))] (ds 10))), [], false⟩, fun k x => slices_IndexFunc129_c113.l2 k x.1.1 x.1.2.1 x.1.2.2.1 x.1.2.2.2.1⟩]
theorem slices_IndexFunc129_c113.ok (k : Nat) : Okf (XR E) Try.prog 129 (slices_IndexFunc129_c113.sig k) := ⟨fn_ok (C := fun k => tab.ctx fun f => lk f (slices_IndexFunc129_c113.calls k)) (fun k => tie _) k (fun j hj => calls_ok (kc (weave_even_1.ok j) (kn))) 400 Try.func129 (body := slices_IndexFunc129_c113.body) (res := [.tmp 4]) rfl (by kernel_rfl) slices_IndexFunc129_c113.cuts (kc ⟨by kernel_rfl, rfl, fun _ => rfl, fun _ _ => by kernel_rfl⟩ (kn)) (fun x => by kernel_rfl), _, Try.func129, by kernel_rfl, by kernel_rfl⟩
/-! ### slices.ContainsFunc: function 112 -/
def slices_ContainsFunc112_c113.f (k : Nat) (a0 : List (List S34)) (a1 : List (List S34)) : Option Bool := (slices_IndexFunc129_c113.f k a0 a1).bind fun r0 => some (decide (r0 ≥ 0))
def slices_ContainsFunc112_c113.sig (k : Nat) : Sig E.toTys := ⟨[.slice (.slice (.st 1)), .ext 113 (.slice (.slice (.st 1)))], [(false, .bool)], none, fun x => f k x.1 x.2.1⟩
noncomputable def slices_ContainsFunc112_c113.body : Code := Try.f112.body.getD .skip
def slices_ContainsFunc112_c113.calls (k : Nat) : List (Nat × Sig E.toTys) := [(129, slices_IndexFunc129_c113.sig k)]
def slices_ContainsFunc112_c113.cuts : List (Cut E (RT E.toTys [(false, .bool)])) := []
theorem slices_ContainsFunc112_c113.ok (k : Nat) : Okf (XR E) Try.prog 112 (slices_ContainsFunc112_c113.sig k) := ⟨fn_ok (C := fun k => tab.ctx fun f => lk f (slices_ContainsFunc112_c113.calls k)) (fun k => tie _) k (fun j hj => calls_ok (kc (slices_IndexFunc129_c113.ok j) (kn))) 400 Try.func112 (body := slices_ContainsFunc112_c113.body) (res := [.tmp 4]) rfl (by kernel_rfl) slices_ContainsFunc112_c113.cuts (kn) (fun x => by kernel_rfl), _, Try.func112, by kernel_rfl, by kernel_rfl⟩
/-! ### steeple/weave.even: function 84 -/
def weave_even.f (k : Nat) (a0 : List (List S34)) : Option Bool := (slices_ContainsFunc112_c113.f k a0 a0).bind fun r0 => some (!r0)
def weave_even.sig (k : Nat) : Sig E.toTys := ⟨[.slice (.slice (.st 1))], [(false, .bool)], none, fun x => f k x.1⟩
noncomputable def weave_even.body : Code := Try.f84.body.getD .skip
def weave_even.calls (k : Nat) : List (Nat × Sig E.toTys) := [(112, slices_ContainsFunc112_c113.sig k)]
def weave_even.cuts : List (Cut E (RT E.toTys [(false, .bool)])) := []
theorem weave_even.ok (k : Nat) : Okf (XR E) Try.prog 84 (weave_even.sig k) := ⟨fn_ok (C := fun k => tab.ctx fun f => lk f (weave_even.calls k)) (fun k => tie _) k (fun j hj => calls_ok (kc (slices_ContainsFunc112_c113.ok j) (kn))) 400 Try.func84 (body := weave_even.body) (res := [.tmp 2]) rfl (by kernel_rfl) weave_even.cuts (kn) (fun x => by kernel_rfl), _, Try.func84, by kernel_rfl, by kernel_rfl⟩
/-! ### slices.Grow: function 130 -/
def slices_Grow130.f (k : Nat) (a0 : Unit) (a1 : Int) : Option (List S34) := if a1 < 0 then none else if wrap64 (a1 - (wrap64 (0 - ((0 : Nat) : Int)))) > 0 then (if 0 ≤ ((0 : Nat) : Int) then (if 0 ≤ wrap64 (a1 - (wrap64 (0 - ((0 : Nat) : Int)))) then (if wrap64 (a1 - (wrap64 (0 - ((0 : Nat) : Int)))) ≤ 140737488355328 / ((16 : Nat) : Int) then (if 0 ≤ ((0 : Nat) : Int) then (if ((0 : Nat) : Int) ≤ ((List.replicate (Int.toNat (wrap64 (a1 - (wrap64 (0 - ((0 : Nat) : Int)))))) z34).length : Int) then some ((List.replicate (Int.toNat (wrap64 (a1 - (wrap64 (0 - ((0 : Nat) : Int)))))) z34).take (Int.toNat ((0 : Nat) : Int))) else none) else none) else none) else none) else none) else some []
def slices_Grow130.sig (k : Nat) : Sig E.toTys := ⟨[.em, .int .i64], [(true, .slice (.st 1))], none, fun x => f k x.1 x.2.1⟩
noncomputable def slices_Grow130.body : Code := Try.f130.body.getD .skip
def slices_Grow130.calls (k : Nat) : List (Nat × Sig E.toTys) := []
def slices_Grow130.cuts : List (Cut E (RT E.toTys [(true, .slice (.st 1))])) := []
theorem slices_Grow130.ok (k : Nat) : Okf (XR E) Try.prog 130 (slices_Grow130.sig k) := ⟨fn_ok (C := fun k => tab.ctx fun f => lk f (slices_Grow130.calls k)) (fun k => tie _) k (fun j hj => calls_ok (kn)) 400 Try.func130 (body := slices_Grow130.body) (res := [.tmp 4]) rfl (by kernel_rfl) slices_Grow130.cuts (kn) (fun x => by kernel_rfl), _, Try.func130, by kernel_rfl, by kernel_rfl⟩
/-! ### slices.Concat: function 115 -/
mutual
def slices_Concat115.l3 : Nat → List (List S34) → Int → List (List S34) → Int → Int → Option (List S34)
  | 0, _, _, _, _, _ => none
  | k + 1, x0, x1, x2, x3, x4 => if x4 < x3 then (if 0 ≤ x4 then (if x4 < (x2.length : Int) then (if wrap64 (x1 + ((rdL x2 x4).length : Int)) < 0 then none else slices_Concat115.l3 k x0 (wrap64 (x1 + ((rdL x2 x4).length : Int))) x2 x3 (wrap64 (x4 + 1))) else none) else none) else (slices_Grow130.f k () x1).bind fun r0 => slices_Concat115.l11 k x0 (x0.length : Int) 0 r0
def slices_Concat115.l11 : Nat → List (List S34) → Int → Int → List S34 → Option (List S34)
  | 0, _, _, _, _ => none
  | k + 1, x0, x1, x2, x3 => if x2 < x1 then (if 0 ≤ x2 then (if x2 < (x0.length : Int) then (if x3.length + (rdL x0 x2).length ≤ 140737488355328 / 16 then slices_Concat115.l11 k x0 x1 (wrap64 (x2 + 1)) (x3 ++ (rdL x0 x2)) else none) else none) else none) else some x3
end
def slices_Concat115.f (k : Nat) (a0 : List (List S34)) : Option (List S34) := slices_Concat115.l3 k a0 0 a0 (a0.length : Int) 0
def slices_Concat115.sig (k : Nat) : Sig E.toTys := ⟨[.slice (.slice (.st 1))], [(true, .slice (.st 1))], none, fun x => f k x.1⟩
noncomputable def slices_Concat115.body : Code := Try.f115.body.getD .skip
def slices_Concat115.calls (k : Nat) : List (Nat × Sig E.toTys) := [(130, slices_Grow130.sig k)]
def slices_Concat115.cuts : List (Cut E (RT E.toTys [(true, .slice (.st 1))])) := [⟨true, 3, ⟨cat [.one (.val (.slice (.slice (.st 1))))] (cat (ds 2) (cat [.one (.val (.int .i64))] (cat (ds 5) (cat [.one (.val (.slice (.slice (.st 1)))), .one (.val (.int .i64)), .one (.val (.int .i64))] (ds 24))))), [], false⟩, fun k x => slices_Concat115.l3 k x.1.1 x.1.2.1 x.1.2.2.1 x.1.2.2.2.1 x.1.2.2.2.2.1⟩,
  ⟨true, 11, ⟨cat (ds 6) (cat [.one (.ref 0)] (cat (ds 18) (cat [.one (.val (.slice (.slice (.st 1)))), .one (.val (.int .i64)), .one (.val (.int .i64))] (ds 8)))), [.arr (.st 1)], false⟩, fun k x => slices_Concat115.l11 k x.1.1 x.1.2.1 x.1.2.2.1 x.2.1⟩]
theorem slices_Concat115.ok (k : Nat) : Okf (XR E) Try.prog 115 (slices_Concat115.sig k) := ⟨fn_ok (C := fun k => tab.ctx fun f => lk f (slices_Concat115.calls k)) (fun k => tie _) k (fun j hj => calls_ok (kc (slices_Grow130.ok j) (kn))) 400 Try.func115 (body := slices_Concat115.body) (res := [.tmp 2]) rfl (by kernel_rfl) slices_Concat115.cuts (kc ⟨by kernel_rfl, rfl, fun _ => rfl, fun _ _ => by kernel_rfl⟩ (kc ⟨by kernel_rfl, rfl, fun _ => rfl, fun _ _ => by kernel_rfl⟩ (kn))) (fun x => by kernel_rfl), _, Try.func115, by kernel_rfl, by kernel_rfl⟩
/-! ### steeple/weave.Join: function 86 -/
def weave_Join.f (k : Nat) (a0 : List (List S34)) : Option (List S34) := (slices_Concat115.f k a0).bind fun r0 => some r0
def weave_Join.sig (k : Nat) : Sig E.toTys := ⟨[.slice (.slice (.st 1))], [(true, .slice (.st 1))], none, fun x => f k x.1⟩
noncomputable def weave_Join.body : Code := Try.f86.body.getD .skip
def weave_Join.calls (k : Nat) : List (Nat × Sig E.toTys) := [(115, slices_Concat115.sig k)]
def weave_Join.cuts : List (Cut E (RT E.toTys [(true, .slice (.st 1))])) := []
theorem weave_Join.ok (k : Nat) : Okf (XR E) Try.prog 86 (weave_Join.sig k) := ⟨fn_ok (C := fun k => tab.ctx fun f => lk f (weave_Join.calls k)) (fun k => tie _) k (fun j hj => calls_ok (kc (slices_Concat115.ok j) (kn))) 400 Try.func86 (body := weave_Join.body) (res := [.tmp 2]) rfl (by kernel_rfl) weave_Join.cuts (kn) (fun x => by kernel_rfl), _, Try.func86, by kernel_rfl, by kernel_rfl⟩
/-! ### steeple/weave.Mix: function 51 -/
mutual
def weave_Mix.l9 : Nat → Int → List S34 → List (List S34) → Int → Int → List S34 → Option ((List S34) × Int)
  | 0, _, _, _, _, _, _ => none
  | k + 1, x0, x1, x2, x3, x4, x5 => if x4 < x3 then (if 0 ≤ x4 then (if x4 < (x2.length : Int) then weave_Mix.l12 k x0 x1 x4 x2 x3 x4 (rdL x2 x4) ((rdL x2 x4).length : Int) 0 x5 else none) else none) else some (x5, 0)
def weave_Mix.l12 : Nat → Int → List S34 → Int → List (List S34) → Int → Int → List S34 → Int → Int → List S34 → Option ((List S34) × Int)
  | 0, _, _, _, _, _, _, _, _, _, _ => none
  | k + 1, x0, x1, x2, x3, x4, x5, x6, x7, x8, x9 => if x8 < x7 then (if 0 ≤ x8 then (if x8 < (x6.length : Int) then (if 0 ≤ x8 then (if x8 < (x9.length : Int) then (if 0 ≤ x2 then (if x2 < (x1.length : Int) then ((tower_Mul.f k x0 (rd34 x1 x2) (rd34 x6 x8)).bind fun r4 => (tower_Add.f k (rd34 x9 x8) r4).bind fun r5 => if 0 ≤ x8 then (if x8 < (x9.length : Int) then weave_Mix.l12 k x0 x1 x2 x3 x4 x5 x6 x7 (wrap64 (x8 + 1)) (x9.set (Int.toNat x8) r5) else none) else none) else none) else none) else none) else none) else none) else none) else weave_Mix.l9 k x0 x1 x3 x4 (wrap64 (x5 + 1)) x9
end
def weave_Mix.f (k : Nat) (a0 : Int) (a1 : List (List S34)) (a2 : List S34) : Option ((List S34) × Int) := if (a1.length : Int) = (a2.length : Int) then ((weave_even.f k a1).bind fun r0 => if (!r0) = true then some ([], 6) else (weave_of.f k a0 a2).bind fun r1 => if (!r1) = true then some ([], 5) else (weave_Join.f k a1).bind fun r2 => (weave_of.f k a0 r2).bind fun r3 => if (!r3) = true then some ([], 5) else if (a1.length : Int) = 0 then some ([], 0) else if 0 < (a1.length : Int) then (if 0 ≤ ((rdL a1 (0 : Int)).length : Int) then (if ((rdL a1 (0 : Int)).length : Int) ≤ 140737488355328 / ((16 : Nat) : Int) then weave_Mix.l9 k a0 a2 a1 (a1.length : Int) 0 (List.replicate (Int.toNat ((rdL a1 (0 : Int)).length : Int)) z34) else none) else none) else none) else some ([], 6)
def weave_Mix.sig (k : Nat) : Sig E.toTys := ⟨[.int .i64, .slice (.slice (.st 1)), .slice (.st 1)], [(true, .slice (.st 1)), (false, .int .i64)], none, fun x => f k x.1 x.2.1 x.2.2.1⟩
noncomputable def weave_Mix.body : Code := Try.f51.body.getD .skip
def weave_Mix.calls (k : Nat) : List (Nat × Sig E.toTys) := [(84, weave_even.sig k), (85, weave_of.sig k), (86, weave_Join.sig k), (30, tower_Mul.sig k), (29, tower_Add.sig k)]
def weave_Mix.cuts : List (Cut E (RT E.toTys [(true, .slice (.st 1)), (false, .int .i64)])) := [⟨true, 9, ⟨cat [.one (.val (.int .i64))] (cat (ds 1) (cat [.one (.val (.slice (.st 1)))] (cat (ds 5) (cat [.one (.ref 0)] (cat (ds 36) (cat [.one (.val (.slice (.slice (.st 1)))), .one (.val (.int .i64)), .one (.val (.int .i64))] (ds 29))))))), [.arr (.st 1)], false⟩, fun k x => weave_Mix.l9 k x.1.1 x.1.2.1 x.1.2.2.1 x.1.2.2.2.1 x.1.2.2.2.2.1 x.2.1⟩,
  ⟨true, 12, ⟨cat [.one (.val (.int .i64))] (cat (ds 1) (cat [.one (.val (.slice (.st 1)))] (cat (ds 5) (cat [.one (.ref 0), .one (.val (.int .i64))] (cat (ds 35) (cat [.one (.val (.slice (.slice (.st 1)))), .one (.val (.int .i64)), .one (.val (.int .i64))] (cat (ds 4) (cat [.one (.val (.slice (.st 1))), .one (.val (.int .i64)), .one (.val (.int .i64))] (ds 22))))))))), [.arr (.st 1)], false⟩, fun k x => weave_Mix.l12 k x.1.1 x.1.2.1 x.1.2.2.1 x.1.2.2.2.1 x.1.2.2.2.2.1 x.1.2.2.2.2.2.1 x.1.2.2.2.2.2.2.1 x.1.2.2.2.2.2.2.2.1 x.1.2.2.2.2.2.2.2.2.1 x.2.1⟩]
theorem weave_Mix.ok (k : Nat) : Okf (XR E) Try.prog 51 (weave_Mix.sig k) := ⟨fn_ok (C := fun k => tab.ctx fun f => lk f (weave_Mix.calls k)) (fun k => tie _) k (fun j hj => calls_ok (kc (weave_even.ok j) (kc (weave_of.ok j) (kc (weave_Join.ok j) (kc (tower_Mul.ok j) (kc (tower_Add.ok j) (kn))))))) 400 Try.func51 (body := weave_Mix.body) (res := [.tmp 6, .tmp 7]) rfl (by kernel_rfl) weave_Mix.cuts (kc ⟨by kernel_rfl, rfl, fun _ => rfl, fun _ _ => by kernel_rfl⟩ (kc ⟨by kernel_rfl, rfl, fun _ => rfl, fun _ _ => by kernel_rfl⟩ (kn))) (fun x => by kernel_rfl), _, Try.func51, by kernel_rfl, by kernel_rfl⟩
/-! ### steeple/weave.Column: function 52 -/
def weave_Column.l7 : Nat → Int → List (List S34) → Int → Int → List S34 → Option ((List S34) × Int)
  | 0, _, _, _, _, _ => none
  | k + 1, x0, x1, x2, x3, x4 => if x3 < x2 then (if 0 ≤ x3 then (if x3 < (x1.length : Int) then (if 0 ≤ x0 then (if x0 < ((rdL x1 x3).length : Int) then (if x4.length + [rd34 (rdL x1 x3) x0].length ≤ 140737488355328 / 16 then weave_Column.l7 k x0 x1 x2 (wrap64 (x3 + 1)) (x4 ++ [rd34 (rdL x1 x3) x0]) else none) else none) else none) else none) else none) else some (x4, 0)
def weave_Column.f (k : Nat) (a0 : List (List S34)) (a1 : Int) : Option ((List S34) × Int) := (weave_even.f k a0).bind fun r0 => if (!r0) = true then some ([], 6) else if (a0.length : Int) = 0 then some ([], 4) else if a1 < 0 then some ([], 4) else if 0 < (a0.length : Int) then (if a1 ≥ ((rdL a0 (0 : Int)).length : Int) then some ([], 4) else weave_Column.l7 k a1 a0 (a0.length : Int) 0 []) else none
def weave_Column.sig (k : Nat) : Sig E.toTys := ⟨[.slice (.slice (.st 1)), .int .i64], [(true, .slice (.st 1)), (false, .int .i64)], none, fun x => f k x.1 x.2.1⟩
noncomputable def weave_Column.body : Code := Try.f52.body.getD .skip
def weave_Column.calls (k : Nat) : List (Nat × Sig E.toTys) := [(84, weave_even.sig k)]
def weave_Column.cuts : List (Cut E (RT E.toTys [(true, .slice (.st 1)), (false, .int .i64)])) := [⟨true, 7, ⟨cat (ds 1) (cat [.one (.val (.int .i64))] (cat (ds 4) (cat [.one (.ref 0)] (cat (ds 22) (cat [.one (.val (.slice (.slice (.st 1)))), .one (.val (.int .i64)), .one (.val (.int .i64))] (ds 12)))))), [.arr (.st 1)], false⟩, fun k x => weave_Column.l7 k x.1.1 x.1.2.1 x.1.2.2.1 x.1.2.2.2.1 x.2.1⟩]
theorem weave_Column.ok (k : Nat) : Okf (XR E) Try.prog 52 (weave_Column.sig k) := ⟨fn_ok (C := fun k => tab.ctx fun f => lk f (weave_Column.calls k)) (fun k => tie _) k (fun j hj => calls_ok (kc (weave_even.ok j) (kn))) 400 Try.func52 (body := weave_Column.body) (res := [.tmp 4, .tmp 5]) rfl (by kernel_rfl) weave_Column.cuts (kc ⟨by kernel_rfl, rfl, fun _ => rfl, fun _ _ => by kernel_rfl⟩ (kn)) (fun x => by kernel_rfl), _, Try.func52, by kernel_rfl, by kernel_rfl⟩
/-! ### steeple/tower.Dot: function 53 -/
def tower_Dot.l5 : Nat → Int → List S34 → List S34 → Int → Int → Int → Int → Int → Int → Option S34
  | 0, _, _, _, _, _, _, _, _, _ => none
  | k + 1, x0, x1, x2, x3, x4, x5, x6, x7, x8 => if x4 < x3 then (if 0 ≤ x4 then (if x4 < (x1.length : Int) then ((octet_Of.f k x0 (rd34 x1 x4)).bind fun r0 => if (!r0) = true then some (⟨0, 0⟩ : S34) else if 0 ≤ x4 then (if x4 < (x2.length : Int) then ((octet_Of.f k x0 (rd34 x2 x4)).bind fun r1 => if (!r1) = true then some (⟨0, 0⟩ : S34) else if 0 ≤ x4 then (if x4 < (x1.length : Int) then (if 0 ≤ x4 then (if x4 < (x2.length : Int) then ((tower_Mul.f k x0 (rd34 x1 x4) (rd34 x2 x4)).bind fun r2 => (tower_Add.f k (⟨x7, x8⟩ : S34) r2).bind fun r3 => tower_Dot.l5 k x0 x1 x2 x3 (wrap64 (x4 + 1)) x5 x6 r3.f0 r3.f1) else none) else none) else none) else none) else none) else none) else none) else none) else some (⟨x7, x8⟩ : S34)
def tower_Dot.f (k : Nat) (a0 : Int) (a1 : List S34) (a2 : List S34) : Option S34 := if (a1.length : Int) = (a2.length : Int) then tower_Dot.l5 k a0 a1 a2 (a1.length : Int) 0 0 0 0 0 else some (⟨0, 0⟩ : S34)
def tower_Dot.sig (k : Nat) : Sig E.toTys := ⟨[.int .i64, .slice (.st 1), .slice (.st 1)], [(false, .st 1)], none, fun x => f k x.1 x.2.1 x.2.2.1⟩
noncomputable def tower_Dot.body : Code := Try.f53.body.getD .skip
def tower_Dot.calls (k : Nat) : List (Nat × Sig E.toTys) := [(67, octet_Of.sig k), (30, tower_Mul.sig k), (29, tower_Add.sig k)]
def tower_Dot.cuts : List (Cut E (RT E.toTys [(false, .st 1)])) := [⟨true, 5, ⟨cat [.one (.val (.int .i64)), .one (.val (.slice (.st 1))), .one (.val (.slice (.st 1)))] (cat (ds 3) (cat [.one (.ptr 0 0), .one (.ptr 1 0)] (cat (ds 8) (cat [.one (.val (.int .i64)), .one (.val (.int .i64))] (ds 33))))), [.var [.val (.int .u64), .val (.int .u64)], .var [.val (.int .u64), .val (.int .u64)]], false⟩, fun k x => tower_Dot.l5 k x.1.1 x.1.2.1 x.1.2.2.1 x.1.2.2.2.1 x.1.2.2.2.2.1 x.2.1.1 x.2.1.2.1 x.2.2.1.1 x.2.2.1.2.1⟩]
theorem tower_Dot.ok (k : Nat) : Okf (XR E) Try.prog 53 (tower_Dot.sig k) := ⟨fn_ok (C := fun k => tab.ctx fun f => lk f (tower_Dot.calls k)) (fun k => tie _) k (fun j hj => calls_ok (kc (octet_Of.ok j) (kc (tower_Mul.ok j) (kc (tower_Add.ok j) (kn))))) 400 Try.func53 (body := tower_Dot.body) (res := [.cell 6 34]) rfl (by kernel_rfl) tower_Dot.cuts (kc ⟨by kernel_rfl, rfl, fun _ => rfl, fun _ _ => by kernel_rfl⟩ (kn)) (fun x => by kernel_rfl), _, Try.func53, by kernel_rfl, by kernel_rfl⟩
/-! ### steeple/steeplelaw09.WeaveEncodes: function 11 -/
mutual
def steeplelaw09_WeaveEncodes.j3 : Nat → Option Bool
  | 0 => none
  | k + 1 => (steeplelaw09_awake.f k).bind fun r4 => some r4
def steeplelaw09_WeaveEncodes.l6 : Nat → List (List S34) → List S34 → Option S92 → Int → Int → Int → Int → Int → List (List S34) → Option Bool
  | 0, _, _, _, _, _, _, _, _, _ => none
  | k + 1, x0, x1, x2, x3, x4, x5, x6, x7, x8 => if x4 < (x0.length : Int) then (if 0 ≤ x4 then (if x4 < (x0.length : Int) then ((code_Code_Encode.f k x2 (rdL x0 x4)).bind fun r5 => if r5.2 = 0 then (if x3 = 0 then (if x4 ≥ (x8.length : Int) then some false else if 0 ≤ x4 then (if x4 < (x8.length : Int) then ((steeplelaw01_Ref.f k r5.1).bind fun r6 => (steeplelaw01_Same.f k (rdL x8 x4) r6).bind fun r7 => if (!r7) = true then some false else steeplelaw09_WeaveEncodes.l6 k x0 x1 x2 x3 (wrap64 (x4 + 1)) x5 x6 x7 x8) else none) else none) else steeplelaw09_WeaveEncodes.l6 k x0 x1 x2 x3 (wrap64 (x4 + 1)) x5 x6 x7 x8) else if x3 = r5.2 then some (decide ((x8.length : Int) = 0)) else some false) else none) else none) else if x3 = 0 then (if (x8.length : Int) = (x0.length : Int) then ((weave_Mix.f k x5 x0 x1).bind fun r8 => if r8.2 = 0 then (if (x0.length : Int) = 0 then some true else (code_Code_Encode.f k x2 r8.1).bind fun r9 => if r9.2 = 0 then ((code_Code_Long.f k x2).bind fun r10 => if (r9.1.length : Int) = r10 then steeplelaw09_WeaveEncodes.l22 k x1 0 x5 x6 x7 x8 r9.1 else some false) else some false) else some true) else some false) else some false
def steeplelaw09_WeaveEncodes.l22 : Nat → List S34 → Int → Int → Int → Int → List (List S34) → List S34 → Option Bool
  | 0, _, _, _, _, _, _, _ => none
  | k + 1, x0, x1, x2, x3, x4, x5, x6 => if x1 < (x6.length : Int) then ((weave_Column.f k x5 x1).bind fun r11 => if r11.2 = 0 then ((tower_Dot.f k x2 r11.1 x0).bind fun r12 => if 0 ≤ x1 then (if x1 < (x6.length : Int) then (if r12.f0 = (rd34 x6 x1).f0 ∧ r12.f1 = (rd34 x6 x1).f1 then steeplelaw09_WeaveEncodes.l22 k x0 (wrap64 (x1 + 1)) x2 x3 x4 x5 x6 else some false) else none) else none) else some false) else some true
end
def steeplelaw09_WeaveEncodes.f (k : Nat) (a0 : S23) (a1 : List (List S34)) (a2 : List S34) : Option Bool := (steeplelaw08_Shape_Made.f k a0).bind fun r0 => (match r0 with | none => steeplelaw09_WeaveEncodes.j3 k | some _ => (steeplelaw09_Few.f k a1 8 40).bind fun r1 => if (!r1) = true then steeplelaw09_WeaveEncodes.j3 k else if (a2.length : Int) > 8 then steeplelaw09_WeaveEncodes.j3 k else (steeplelaw09_awake.f k).bind fun r2 => if (!r2) = true then steeplelaw09_WeaveEncodes.j3 k else (weave_Encode.f k r0 a1).bind fun r3 => steeplelaw09_WeaveEncodes.l6 k a1 a2 r0 r3.2 0 a0.f0 a0.f1 a0.f2 r3.1)
def steeplelaw09_WeaveEncodes.sig (k : Nat) : Sig E.toTys := ⟨[.st 0, .slice (.slice (.st 1)), .slice (.st 1)], [(false, .bool)], none, fun x => f k x.1 x.2.1 x.2.2.1⟩
noncomputable def steeplelaw09_WeaveEncodes.body : Code := Try.f11.body.getD .skip
def steeplelaw09_WeaveEncodes.calls (k : Nat) : List (Nat × Sig E.toTys) := [(14, steeplelaw08_Shape_Made.sig k), (48, steeplelaw09_Few.sig k), (49, steeplelaw09_awake.sig k), (50, weave_Encode.sig k), (17, code_Code_Encode.sig k), (20, steeplelaw01_Ref.sig k), (19, steeplelaw01_Same.sig k), (51, weave_Mix.sig k), (25, code_Code_Long.sig k), (52, weave_Column.sig k), (53, tower_Dot.sig k)]
def steeplelaw09_WeaveEncodes.cuts : List (Cut E (RT E.toTys [(false, .bool)])) := [⟨false, 3, ⟨ds 153, [], false⟩, fun k x => steeplelaw09_WeaveEncodes.j3 k⟩,
  ⟨true, 6, ⟨cat (ds 1) (cat [.one (.val (.slice (.slice (.st 1)))), .one (.val (.slice (.st 1))), .one (.ptr 0 0)] (cat (ds 3) (cat [.one (.val (.ptr (.st 3))), .one (.ref 1), .one (.val (.int .i64)), .one (.val (.int .i64))] (ds 142)))), [.var [.val (.int .i64), .val (.int .i64), .val (.int .i64)], .arr (.slice (.st 1))], false⟩, fun k x => steeplelaw09_WeaveEncodes.l6 k x.1.1 x.1.2.1 x.1.2.2.1 x.1.2.2.2.1 x.1.2.2.2.2.1 x.2.1.1 x.2.1.2.1 x.2.1.2.2.1 x.2.2.1⟩,
  ⟨true, 22, ⟨cat (ds 2) (cat [.one (.val (.slice (.st 1))), .one (.ptr 0 0)] (cat (ds 4) (cat [.one (.ref 1)] (cat (ds 6) (cat [.one (.ref 2)] (cat (ds 1) (cat [.one (.val (.int .i64))] (ds 135)))))))), [.var [.val (.int .i64), .val (.int .i64), .val (.int .i64)], .arr (.slice (.st 1)), .arr (.st 1)], false⟩, fun k x => steeplelaw09_WeaveEncodes.l22 k x.1.1 x.1.2.1 x.2.1.1 x.2.1.2.1 x.2.1.2.2.1 x.2.2.1 x.2.2.2.1⟩]
theorem steeplelaw09_WeaveEncodes.ok (k : Nat) : Okf (XR E) Try.prog 11 (steeplelaw09_WeaveEncodes.sig k) := ⟨fn_ok (C := fun k => tab.ctx fun f => lk f (steeplelaw09_WeaveEncodes.calls k)) (fun k => tie _) k (fun j hj => calls_ok (kc (steeplelaw08_Shape_Made.ok j) (kc (steeplelaw09_Few.ok j) (kc (steeplelaw09_awake.ok j) (kc (weave_Encode.ok j) (kc (code_Code_Encode.ok j) (kc (steeplelaw01_Ref.ok j) (kc (steeplelaw01_Same.ok j) (kc (weave_Mix.ok j) (kc (code_Code_Long.ok j) (kc (weave_Column.ok j) (kc (tower_Dot.ok j) (kn))))))))))))) 400 Try.func11 (body := steeplelaw09_WeaveEncodes.body) (res := [.tmp 6]) rfl (by kernel_rfl) steeplelaw09_WeaveEncodes.cuts (kc ⟨by kernel_rfl, rfl, fun _ => rfl, fun _ _ => by kernel_rfl⟩ (kc ⟨by kernel_rfl, rfl, fun _ => rfl, fun _ _ => by kernel_rfl⟩ (kc ⟨by kernel_rfl, rfl, fun _ => rfl, fun _ _ => by kernel_rfl⟩ (kn)))) (fun x => by kernel_rfl), _, Try.func11, by kernel_rfl, by kernel_rfl⟩
/-! ### steeple/steepleref08.MayFill: function 54 -/
mutual
def steepleref08_MayFill.l4 : Nat → Int → Int → Int → List Int → List S48 → Int → Option Int
  | 0, _, _, _, _, _, _ => none
  | k + 1, x0, x1, x2, x3, x4, x5 => if x5 < (x3.length : Int) then (if 0 ≤ x5 then (if x5 < (x3.length : Int) then (if rdI x3 x5 < 0 then some 4 else if 0 ≤ x5 then (if x5 < (x3.length : Int) then ((steepleref08_Two.f k (wrap64 (x1 + x2))).bind fun r2 => if rdI x3 x5 ≥ r2 then some 4 else steepleref08_MayFill.l4 k x0 x1 x2 x3 x4 (wrap64 (x5 + 1))) else none) else none) else none) else none) else steepleref08_MayFill.l9 k x0 x1 x3 x4 0
def steepleref08_MayFill.l9 : Nat → Int → Int → List Int → List S48 → Int → Option Int
  | 0, _, _, _, _, _ => none
  | k + 1, x0, x1, x2, x3, x4 => if x4 < (x2.length : Int) then steepleref08_MayFill.l12 k x0 x1 x2 x3 x4 0 else (steepleref08_Two.f k x1).bind fun r3 => (steepleref08_May.f k x0 x3 r3).bind fun r4 => some r4
def steepleref08_MayFill.l12 : Nat → Int → Int → List Int → List S48 → Int → Int → Option Int
  | 0, _, _, _, _, _, _ => none
  | k + 1, x0, x1, x2, x3, x4, x5 => if x5 < x4 then (if 0 ≤ x4 then (if x4 < (x2.length : Int) then (if 0 ≤ x5 then (if x5 < (x2.length : Int) then (if rdI x2 x4 = rdI x2 x5 then some 10 else steepleref08_MayFill.l12 k x0 x1 x2 x3 x4 (wrap64 (x5 + 1))) else none) else none) else none) else none) else steepleref08_MayFill.l9 k x0 x1 x2 x3 (wrap64 (x4 + 1))
end
def steepleref08_MayFill.f (k : Nat) (a0 : Int) (a1 : Int) (a2 : Int) (a3 : List Int) (a4 : List S48) : Option Int := (steepleref08_Two.f k a1).bind fun r0 => if (a3.length : Int) = r0 then ((steepleref08_Two.f k a1).bind fun r1 => if (a4.length : Int) = r1 then steepleref08_MayFill.l4 k a0 a1 a2 a3 a4 0 else some 6) else some 6
def steepleref08_MayFill.sig (k : Nat) : Sig E.toTys := ⟨[.int .i64, .int .i64, .int .i64, .slice (.int .i64), .slice (.st 4)], [(false, .int .i64)], none, fun x => f k x.1 x.2.1 x.2.2.1 x.2.2.2.1 x.2.2.2.2.1⟩
noncomputable def steepleref08_MayFill.body : Code := Try.f54.body.getD .skip
def steepleref08_MayFill.calls (k : Nat) : List (Nat × Sig E.toTys) := [(27, steepleref08_Two.sig k), (34, steepleref08_May.sig k)]
def steepleref08_MayFill.cuts : List (Cut E (RT E.toTys [(false, .int .i64)])) := [⟨true, 4, ⟨cat [.one (.val (.int .i64)), .one (.val (.int .i64)), .one (.val (.int .i64)), .one (.val (.slice (.int .i64))), .one (.val (.slice (.st 4)))] (cat (ds 6) (cat [.one (.val (.int .i64))] (ds 61))), [], false⟩, fun k x => steepleref08_MayFill.l4 k x.1.1 x.1.2.1 x.1.2.2.1 x.1.2.2.2.1 x.1.2.2.2.2.1 x.1.2.2.2.2.2.1⟩,
  ⟨true, 9, ⟨cat [.one (.val (.int .i64)), .one (.val (.int .i64))] (cat (ds 1) (cat [.one (.val (.slice (.int .i64))), .one (.val (.slice (.st 4)))] (cat (ds 7) (cat [.one (.val (.int .i64))] (ds 60))))), [], false⟩, fun k x => steepleref08_MayFill.l9 k x.1.1 x.1.2.1 x.1.2.2.1 x.1.2.2.2.1 x.1.2.2.2.2.1⟩,
  ⟨true, 12, ⟨cat [.one (.val (.int .i64)), .one (.val (.int .i64))] (cat (ds 1) (cat [.one (.val (.slice (.int .i64))), .one (.val (.slice (.st 4)))] (cat (ds 7) (cat [.one (.val (.int .i64)), .one (.val (.int .i64))] (ds 59))))), [], false⟩, fun k x => steepleref08_MayFill.l12 k x.1.1 x.1.2.1 x.1.2.2.1 x.1.2.2.2.1 x.1.2.2.2.2.1 x.1.2.2.2.2.2.1⟩]
theorem steepleref08_MayFill.ok (k : Nat) : Okf (XR E) Try.prog 54 (steepleref08_MayFill.sig k) := ⟨fn_ok (C := fun k => tab.ctx fun f => lk f (steepleref08_MayFill.calls k)) (fun k => tie _) k (fun j hj => calls_ok (kc (steepleref08_Two.ok j) (kc (steepleref08_May.ok j) (kn)))) 400 Try.func54 (body := steepleref08_MayFill.body) (res := [.tmp 10]) rfl (by kernel_rfl) steepleref08_MayFill.cuts (kc ⟨by kernel_rfl, rfl, fun _ => rfl, fun _ _ => by kernel_rfl⟩ (kc ⟨by kernel_rfl, rfl, fun _ => rfl, fun _ _ => by kernel_rfl⟩ (kc ⟨by kernel_rfl, rfl, fun _ => rfl, fun _ _ => by kernel_rfl⟩ (kn)))) (fun x => by kernel_rfl), _, Try.func54, by kernel_rfl, by kernel_rfl⟩
/-! ### steeple/steeplelaw08.CodeFills: function 12 -/
mutual
def steeplelaw08_CodeFills.j3 : Nat → Option Bool
  | 0 => none
  | k + 1 => (steeplelaw08_awake.f k).bind fun r5 => some r5
def steeplelaw08_CodeFills.l11 : Nat → List Int → List S34 → Option S92 → Int → List S34 → Option Bool
  | 0, _, _, _, _, _ => none
  | k + 1, x0, x1, x2, x3, x4 => if x3 < (x0.length : Int) then (if 0 ≤ x3 then (if x3 < (x0.length : Int) then ((code_Code_At.f k x2 x4 (rdI x0 x3)).bind fun r6 => if r6.2 = 0 then (if 0 ≤ x3 then (if x3 < (x1.length : Int) then (if r6.1.f0 = (rd34 x1 x3).f0 ∧ r6.1.f1 = (rd34 x1 x3).f1 then steeplelaw08_CodeFills.l11 k x0 x1 x2 (wrap64 (x3 + 1)) x4 else some false) else none) else none) else some false) else none) else none) else (steeplelaw08_awake.f k).bind fun r7 => if r7 = true then ((code_Code_Size.f k x2).bind fun r8 => some (decide ((x4.length : Int) = r8))) else some false
end
def steeplelaw08_CodeFills.f (k : Nat) (a0 : S23) (a1 : List Int) (a2 : List S34) : Option Bool := (steeplelaw08_Shape_Made.f k a0).bind fun r0 => (match r0 with | none => steeplelaw08_CodeFills.j3 k | some _ => if (a1.length : Int) > 40 then steeplelaw08_CodeFills.j3 k else if (a2.length : Int) > 40 then steeplelaw08_CodeFills.j3 k else (code_Code_Fill.f k r0 a1 a2).bind fun r1 => (steeplelaw01_Ref.f k a2).bind fun r2 => (steepleref08_MayFill.f k a0.f0 a0.f1 a0.f2 a1 r2).bind fun r3 => if r1.2 = r3 then (if r1.2 = 0 then steeplelaw08_CodeFills.l11 k a1 a2 r0 0 r1.1 else (steeplelaw08_awake.f k).bind fun r4 => if r4 = true then some (decide ((r1.1.length : Int) = 0)) else some false) else some false)
def steeplelaw08_CodeFills.sig (k : Nat) : Sig E.toTys := ⟨[.st 0, .slice (.int .i64), .slice (.st 1)], [(false, .bool)], none, fun x => f k x.1 x.2.1 x.2.2.1⟩
noncomputable def steeplelaw08_CodeFills.body : Code := Try.f12.body.getD .skip
def steeplelaw08_CodeFills.calls (k : Nat) : List (Nat × Sig E.toTys) := [(14, steeplelaw08_Shape_Made.sig k), (18, code_Code_Fill.sig k), (20, steeplelaw01_Ref.sig k), (54, steepleref08_MayFill.sig k), (23, steeplelaw08_awake.sig k), (33, code_Code_At.sig k), (24, code_Code_Size.sig k)]
def steeplelaw08_CodeFills.cuts : List (Cut E (RT E.toTys [(false, .bool)])) := [⟨false, 3, ⟨ds 91, [], false⟩, fun k x => steeplelaw08_CodeFills.j3 k⟩,
  ⟨true, 11, ⟨cat (ds 1) (cat [.one (.val (.slice (.int .i64))), .one (.val (.slice (.st 1)))] (cat (ds 4) (cat [.one (.val (.ptr (.st 3))), .one (.ref 0)] (cat (ds 2) (cat [.one (.val (.int .i64))] (ds 79)))))), [.arr (.st 1)], false⟩, fun k x => steeplelaw08_CodeFills.l11 k x.1.1 x.1.2.1 x.1.2.2.1 x.1.2.2.2.1 x.2.1⟩]
theorem steeplelaw08_CodeFills.ok (k : Nat) : Okf (XR E) Try.prog 12 (steeplelaw08_CodeFills.sig k) := ⟨fn_ok (C := fun k => tab.ctx fun f => lk f (steeplelaw08_CodeFills.calls k)) (fun k => tie _) k (fun j hj => calls_ok (kc (steeplelaw08_Shape_Made.ok j) (kc (code_Code_Fill.ok j) (kc (steeplelaw01_Ref.ok j) (kc (steepleref08_MayFill.ok j) (kc (steeplelaw08_awake.ok j) (kc (code_Code_At.ok j) (kc (code_Code_Size.ok j) (kn))))))))) 400 Try.func12 (body := steeplelaw08_CodeFills.body) (res := [.tmp 6]) rfl (by kernel_rfl) steeplelaw08_CodeFills.cuts (kc ⟨by kernel_rfl, rfl, fun _ => rfl, fun _ _ => by kernel_rfl⟩ (kc ⟨by kernel_rfl, rfl, fun _ => rfl, fun _ _ => by kernel_rfl⟩ (kn))) (fun x => by kernel_rfl), _, Try.func12, by kernel_rfl, by kernel_rfl⟩
/-! ### steeple/steeplelaw08.CodeNil: function 13 -/
def steeplelaw08_CodeNil.f (k : Nat) (a0 : List S34) (a1 : Int) : Option Bool := (code_Code_Encode.f k none a0).bind fun r0 => (code_Code_Decode.f k none a0).bind fun r1 => (code_Code_At.f k none a0 a1).bind fun r2 => (code_Code_Fill.f k none [a1] a0).bind fun r3 => (steeplelaw08_awake.f k).bind fun r4 => if r4 = true then (if r0.2 = 1 then (if r1.2 = 1 then (if r2.2 = 1 then some (decide (r3.2 = 1)) else some false) else some false) else some false) else some false
def steeplelaw08_CodeNil.sig (k : Nat) : Sig E.toTys := ⟨[.slice (.st 1), .int .i64], [(false, .bool)], none, fun x => f k x.1 x.2.1⟩
noncomputable def steeplelaw08_CodeNil.body : Code := Try.f13.body.getD .skip
def steeplelaw08_CodeNil.calls (k : Nat) : List (Nat × Sig E.toTys) := [(17, code_Code_Encode.sig k), (16, code_Code_Decode.sig k), (33, code_Code_At.sig k), (18, code_Code_Fill.sig k), (23, steeplelaw08_awake.sig k)]
def steeplelaw08_CodeNil.cuts : List (Cut E (RT E.toTys [(false, .bool)])) := []
theorem steeplelaw08_CodeNil.ok (k : Nat) : Okf (XR E) Try.prog 13 (steeplelaw08_CodeNil.sig k) := ⟨fn_ok (C := fun k => tab.ctx fun f => lk f (steeplelaw08_CodeNil.calls k)) (fun k => tie _) k (fun j hj => calls_ok (kc (code_Code_Encode.ok j) (kc (code_Code_Decode.ok j) (kc (code_Code_At.ok j) (kc (code_Code_Fill.ok j) (kc (steeplelaw08_awake.ok j) (kn))))))) 400 Try.func13 (body := steeplelaw08_CodeNil.body) (res := [.tmp 4]) rfl (by kernel_rfl) steeplelaw08_CodeNil.cuts (kn) (fun x => by kernel_rfl), _, Try.func13, by kernel_rfl, by kernel_rfl⟩
end Go.Proofs.Ytbapldgapbmdkaa.B

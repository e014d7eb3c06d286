/- Own text: merged by pack2.py. -/
import Derived.Test.YtnjaocdgjaaffaaMBa
import Derived.Test.YtnjaocdgjaaffaaMBb
import Derived.Test.YtnjaocdgjaaffaaMBc
import Derived.Test.YtnjaocdgjaaffaaMFa
set_option linter.unusedSimpArgs false
set_option linter.unusedVariables false
namespace Go.Proofs.Ytnjaocdgjaaffaa.B
open Go.Proofs.Ytnjaocdgjaaffaa.V.B Go.RowKit
set_option linter.unusedVariables false
/-! ### steeple/steeplelaw23.RingSwitches: function 11 -/
mutual
def steeplelaw23_RingSwitches.l12 : Nat → Int → Int → List Bool → List S30 → List S30 → Int → Int → Int → Int → List S30 → List S30 → List S40 → Option Bool
  | 0, _, _, _, _, _, _, _, _, _, _, _, _ => none
  | k + 1, x0, x1, x2, x3, x4, x5, x6, x7, x8, x9, x10, x11 => if x1 < (x2.length : Int) then (if 0 ≤ x1 then (if x1 < (x2.length : Int) then (if (rdB x2 x1) = true then (if x11.length + [(⟨0, 1⟩ : S40)].length ≤ 140737488355328 / 16 then steeplelaw23_RingSwitches.l12 k x0 (wrap64 (x1 + 1)) x2 x3 x4 x5 x6 x7 x8 x9 x10 (x11 ++ [(⟨0, 1⟩ : S40)]) else none) else if x11.length + [(⟨0, 0⟩ : S40)].length ≤ 140737488355328 / 16 then steeplelaw23_RingSwitches.l12 k x0 (wrap64 (x1 + 1)) x2 x3 x4 x5 x6 x7 x8 x9 x10 (x11 ++ [(⟨0, 0⟩ : S40)]) else none) else none) else none) else if ([] : List Int).length + x3.length ≤ 140737488355328 / 16 then (if ([] ++ x3).length + x4.length ≤ 140737488355328 / 16 then ((steeplelaw23_awake.f k).bind fun r8 => if r8 = true then ((steeplelaw01_Ref.f k (([] ++ x3) ++ x4)).bind fun r9 => (steepleref15_Value.f k x11 r9).bind fun r10 => if x5 = r10.f0 ∧ x6 = r10.f1 then ((steeplelaw01_Ref.f k x10).bind fun r11 => (steeplelaw01_Ref.f k x9).bind fun r12 => (steepleref02_Dot.f k x0 r11 r12).bind fun r13 => some (decide (x7 = r13.f0 ∧ x8 = r13.f1))) else some false) else some false) else none) else none
def steeplelaw23_RingSwitches.j9 : Nat → Option Bool
  | 0 => none
  | k + 1 => (steeplelaw23_awake.f k).bind fun r14 => some r14
end
def steeplelaw23_RingSwitches.f (k : Nat) (a0 : Int) (a1 : S77) (a2 : List S30) : Option Bool := (steeplelaw23_few.f k a0 a1).bind fun r0 => if (!r0) = true then ((steeplelaw23_awake.f k).bind fun r1 => some r1) else if (a2.length : Int) > 6 then ((steeplelaw23_awake.f k).bind fun r2 => some r2) else (ring_Parts.f k a0 a1.f0 a1.f2).bind fun r3 => (ring_Value.f k a0 r3.1 a1.f1).bind fun r4 => (ring_Batch.f k a0 r3.1 a2).bind fun r5 => (ring_Mask.f k a0 a1.f2 a2).bind fun r6 => (ring_Pack.f k a0 a1.f0).bind fun r7 => if r3.2 = 0 then (if r4.2 = 0 then (if r5.2 = 0 then (if r6.2 = 0 then (if r7.2 = 0 then steeplelaw23_RingSwitches.l12 k a0 0 a1.f0 a1.f1 a1.f2 r4.1.f0 r4.1.f1 r5.1.f0 r5.1.f1 r6.1 r7.1 [] else steeplelaw23_RingSwitches.j9 k) else steeplelaw23_RingSwitches.j9 k) else steeplelaw23_RingSwitches.j9 k) else steeplelaw23_RingSwitches.j9 k) else steeplelaw23_RingSwitches.j9 k
def steeplelaw23_RingSwitches.sig (k : Nat) : Sig E.toTys := ⟨[.int .i64, .st 7, .slice (.st 1)], [(false, .bool)], none, fun x => f k x.1 x.2.1 x.2.2.1⟩
noncomputable def steeplelaw23_RingSwitches.body : Code := Try.f11.body.getD .skip
def steeplelaw23_RingSwitches.calls (k : Nat) : List (Nat × Sig E.toTys) := [(43, steeplelaw23_few.sig k), (40, steeplelaw23_awake.sig k), (41, ring_Parts.sig k), (49, ring_Value.sig k), (42, ring_Batch.sig k), (51, ring_Mask.sig k), (44, ring_Pack.sig k), (16, steeplelaw01_Ref.sig k), (39, steepleref15_Value.sig k), (52, steepleref02_Dot.sig k)]
def steeplelaw23_RingSwitches.cuts : List (Cut E (RT E.toTys [(false, .bool)])) := [⟨true, 12, ⟨cat [.one (.val (.int .i64))] (cat (ds 3) (cat [.one (.ptr 0 0)] (cat (ds 4) (cat [.one (.ptr 1 0)] (cat (ds 1) (cat [.one (.ptr 2 0)] (cat (ds 1) (cat [.one (.ref 3)] (cat (ds 1) (cat [.one (.ref 4)] (cat (ds 1) (cat [.one (.ref 5), .one (.val (.int .i64))] (ds 114))))))))))))), [.var [.val (.slice .bool), .val (.slice (.st 1)), .val (.slice (.st 1))], .var [.val (.int .u64), .val (.int .u64)], .var [.val (.int .u64), .val (.int .u64)], .arr (.st 1), .arr (.st 1), .arr (.st 3)], false⟩, fun k x => steeplelaw23_RingSwitches.l12 k x.1.1 x.1.2.1 x.2.1.1 x.2.1.2.1 x.2.1.2.2.1 x.2.2.1.1 x.2.2.1.2.1 x.2.2.2.1.1 x.2.2.2.1.2.1 x.2.2.2.2.1 x.2.2.2.2.2.1 x.2.2.2.2.2.2.1⟩,
  ⟨false, 9, ⟨ds 133, [], false⟩, fun k x => steeplelaw23_RingSwitches.j9 k⟩]
theorem steeplelaw23_RingSwitches.ok (k : Nat) : Okf (XR E) Try.prog 11 (steeplelaw23_RingSwitches.sig k) := ⟨fn_ok (C := fun k => tab.ctx fun f => lk f (steeplelaw23_RingSwitches.calls k)) (fun k => tie _) k (fun j hj => calls_ok (kc (steeplelaw23_few.ok j) (kc (steeplelaw23_awake.ok j) (kc (ring_Parts.ok j) (kc (ring_Value.ok j) (kc (ring_Batch.ok j) (kc (ring_Mask.ok j) (kc (ring_Pack.ok j) (kc (steeplelaw01_Ref.ok j) (kc (steepleref15_Value.ok j) (kc (steepleref02_Dot.ok j) (kn)))))))))))) 400 Try.func11 (body := steeplelaw23_RingSwitches.body) (res := [.tmp 6]) rfl (by kernel_rfl) steeplelaw23_RingSwitches.cuts (kc ⟨by kernel_rfl, rfl, fun _ => rfl, fun _ _ => by kernel_rfl⟩ (kc ⟨by kernel_rfl, rfl, fun _ => rfl, fun _ _ => by kernel_rfl⟩ (kn))) (fun x => by kernel_rfl), _, Try.func11, by kernel_rfl, by kernel_rfl⟩
/-! ### steeple/packv.size: function 109 -/
def packv_size.f (k : Nat) (a0 : Int) : Option Int := (octet_Wide.f k a0).bind fun r0 => if r0 = 0 then some 0 else if 0 ≤ a0 then some (shl .i64 1 a0) else none
def packv_size.sig (k : Nat) : Sig E.toTys := ⟨[.int .i64], [(false, .int .i64)], none, fun x => f k x.1⟩
noncomputable def packv_size.body : Code := Try.f109.body.getD .skip
def packv_size.calls (k : Nat) : List (Nat × Sig E.toTys) := [(58, octet_Wide.sig k)]
def packv_size.cuts : List (Cut E (RT E.toTys [(false, .int .i64)])) := []
theorem packv_size.ok (k : Nat) : Okf (XR E) Try.prog 109 (packv_size.sig k) := ⟨fn_ok (C := fun k => tab.ctx fun f => lk f (packv_size.calls k)) (fun k => tie _) k (fun j hj => calls_ok (kc (octet_Wide.ok j) (kn))) 400 Try.func109 (body := packv_size.body) (res := [.tmp 2]) rfl (by kernel_rfl) packv_size.cuts (kn) (fun x => by kernel_rfl), _, Try.func109, by kernel_rfl, by kernel_rfl⟩
/-! ### slices.Grow: function 127 -/
def slices_Grow127.f (k : Nat) (a0 : List S30) (a1 : Int) : Option (List S30) := if a1 < 0 then none else none
def slices_Grow127.sig (k : Nat) : Sig E.toTys := ⟨[.slice (.st 1), .int .i64], [(true, .slice (.st 1))], none, fun x => f k x.1 x.2.1⟩
noncomputable def slices_Grow127.body : Code := Try.f127.body.getD .skip
def slices_Grow127.calls (k : Nat) : List (Nat × Sig E.toTys) := []
def slices_Grow127.cuts : List (Cut E (RT E.toTys [(true, .slice (.st 1))])) := []
theorem slices_Grow127.ok (k : Nat) : Okf (XR E) Try.prog 127 (slices_Grow127.sig k) := ⟨fn_ok (C := fun k => tab.ctx fun f => lk f (slices_Grow127.calls k)) (fun k => tie _) k (fun j hj => calls_ok (kn)) 400 Try.func127 (body := slices_Grow127.body) (res := [.tmp 4]) rfl (by kernel_rfl) slices_Grow127.cuts (kn) (fun x => by kernel_rfl), _, Try.func127, by kernel_rfl, by kernel_rfl⟩
/-! ### slices.Concat: function 111 -/
mutual
def slices_Concat111.l3 : Nat → List (List S30) → Int → List (List S30) → Int → Int → Option (List S30)
  | 0, _, _, _, _, _ => none
  | k + 1, x0, x1, x2, x3, x4 => if x4 < x3 then (if 0 ≤ x4 then (if x4 < (x2.length : Int) then (if wrap64 (x1 + ((rdL x2 x4).length : Int)) < 0 then none else slices_Concat111.l3 k x0 (wrap64 (x1 + ((rdL x2 x4).length : Int))) x2 x3 (wrap64 (x4 + 1))) else none) else none) else (slices_Grow127.f k [] x1).bind fun r0 => slices_Concat111.l11 k x0 (x0.length : Int) 0 r0
def slices_Concat111.l11 : Nat → List (List S30) → Int → Int → List S30 → Option (List S30)
  | 0, _, _, _, _ => none
  | k + 1, x0, x1, x2, x3 => if x2 < x1 then (if 0 ≤ x2 then (if x2 < (x0.length : Int) then (if x3.length + (rdL x0 x2).length ≤ 140737488355328 / 16 then slices_Concat111.l11 k x0 x1 (wrap64 (x2 + 1)) (x3 ++ (rdL x0 x2)) else none) else none) else none) else some x3
end
def slices_Concat111.f (k : Nat) (a0 : List (List S30)) : Option (List S30) := slices_Concat111.l3 k a0 0 a0 (a0.length : Int) 0
def slices_Concat111.sig (k : Nat) : Sig E.toTys := ⟨[.slice (.slice (.st 1))], [(true, .slice (.st 1))], none, fun x => f k x.1⟩
noncomputable def slices_Concat111.body : Code := Try.f111.body.getD .skip
def slices_Concat111.calls (k : Nat) : List (Nat × Sig E.toTys) := [(127, slices_Grow127.sig k)]
def slices_Concat111.cuts : List (Cut E (RT E.toTys [(true, .slice (.st 1))])) := [⟨true, 3, ⟨cat [.one (.val (.slice (.slice (.st 1))))] (cat (ds 2) (cat [.one (.val (.int .i64))] (cat (ds 5) (cat [.one (.val (.slice (.slice (.st 1)))), .one (.val (.int .i64)), .one (.val (.int .i64))] (ds 24))))), [], false⟩, fun k x => slices_Concat111.l3 k x.1.1 x.1.2.1 x.1.2.2.1 x.1.2.2.2.1 x.1.2.2.2.2.1⟩,
  ⟨true, 11, ⟨cat (ds 6) (cat [.one (.ref 0)] (cat (ds 18) (cat [.one (.val (.slice (.slice (.st 1)))), .one (.val (.int .i64)), .one (.val (.int .i64))] (ds 8)))), [.arr (.st 1)], false⟩, fun k x => slices_Concat111.l11 k x.1.1 x.1.2.1 x.1.2.2.1 x.2.1⟩]
theorem slices_Concat111.ok (k : Nat) : Okf (XR E) Try.prog 111 (slices_Concat111.sig k) := ⟨fn_ok (C := fun k => tab.ctx fun f => lk f (slices_Concat111.calls k)) (fun k => tie _) k (fun j hj => calls_ok (kc (slices_Grow127.ok j) (kn))) 400 Try.func111 (body := slices_Concat111.body) (res := [.tmp 2]) rfl (by kernel_rfl) slices_Concat111.cuts (kc ⟨by kernel_rfl, rfl, fun _ => rfl, fun _ _ => by kernel_rfl⟩ (kc ⟨by kernel_rfl, rfl, fun _ => rfl, fun _ _ => by kernel_rfl⟩ (kn))) (fun x => by kernel_rfl), _, Try.func111, by kernel_rfl, by kernel_rfl⟩
/-! ### steeple/packv.ask$1: function 125 -/
def packv_ask_1.f (k : Nat) (a0 : S30) (a1 : Option Int) : Option Bool := (match a1 with | none => none | some r0 => (octet_Of.f k r0 a0).bind fun r1 => some (!r1))
def packv_ask_1.sig (k : Nat) : Sig E.toTys := ⟨[.st 1, .ptr (.int .i64)], [(false, .bool)], none, fun x => f k x.1 x.2.1⟩
noncomputable def packv_ask_1.body : Code := Try.f125.body.getD .skip
def packv_ask_1.calls (k : Nat) : List (Nat × Sig E.toTys) := [(70, octet_Of.sig k)]
def packv_ask_1.cuts : List (Cut E (RT E.toTys [(false, .bool)])) := []
theorem packv_ask_1.ok (k : Nat) : Okf (XR E) Try.prog 125 (packv_ask_1.sig k) := ⟨fn_ok (C := fun k => tab.ctx fun f => lk f (packv_ask_1.calls k)) (fun k => tie _) k (fun j hj => calls_ok (kc (octet_Of.ok j) (kn))) 400 Try.func125 (body := packv_ask_1.body) (res := [.tmp 3]) rfl (by kernel_rfl) packv_ask_1.cuts (kn) (fun x => by kernel_rfl), _, Try.func125, by kernel_rfl, by kernel_rfl⟩
/-! ### slices.IndexFunc: function 132 -/
def slices_IndexFunc132_c125.l2 : Nat → List S30 → Int → Int → Int → Option Int
  | 0, _, _, _, _ => none
  | k + 1, x0, x1, x2, x3 => if x3 < x2 then (if 0 ≤ x3 then (if x3 < (x0.length : Int) then ((packv_ask_1.f k (rd30 x0 x3) (some x1)).bind fun r0 => if r0 = true then some x3 else slices_IndexFunc132_c125.l2 k x0 x1 x2 (wrap64 (x3 + 1))) else none) else none) else some (-1)
def slices_IndexFunc132_c125.f (k : Nat) (a0 : List S30) (a1 : Int) : Option Int := slices_IndexFunc132_c125.l2 k a0 a1 (a0.length : Int) 0
def slices_IndexFunc132_c125.sig (k : Nat) : Sig E.toTys := ⟨[.slice (.st 1), .ext 125 (.int .i64)], [(false, .int .i64)], none, fun x => f k x.1 x.2.1⟩
noncomputable def slices_IndexFunc132_c125.body : Code := Try.f132.body.getD .skip
def slices_IndexFunc132_c125.calls (k : Nat) : List (Nat × Sig E.toTys) := [(125, packv_ask_1.sig k)]
def slices_IndexFunc132_c125.cuts : List (Cut E (RT E.toTys [(false, .int .i64)])) := [⟨true, 2, ⟨cat [.one (.val (.slice (.st 1))), .one (.val (.ext 125 (.int .i64)))] (cat (ds 5) (cat [.one (.val (.int .i64)), .one (.val (.int .i64))] (ds 10))), [], false⟩, fun k x => slices_IndexFunc132_c125.l2 k x.1.1 x.1.2.1 x.1.2.2.1 x.1.2.2.2.1⟩]
theorem slices_IndexFunc132_c125.ok (k : Nat) : Okf (XR E) Try.prog 132 (slices_IndexFunc132_c125.sig k) := ⟨fn_ok (C := fun k => tab.ctx fun f => lk f (slices_IndexFunc132_c125.calls k)) (fun k => tie _) k (fun j hj => calls_ok (kc (packv_ask_1.ok j) (kn))) 400 Try.func132 (body := slices_IndexFunc132_c125.body) (res := [.tmp 4]) rfl (by kernel_rfl) slices_IndexFunc132_c125.cuts (kc ⟨by kernel_rfl, rfl, fun _ => rfl, fun _ _ => by kernel_rfl⟩ (kn)) (fun x => by kernel_rfl), _, Try.func132, by kernel_rfl, by kernel_rfl⟩
/-! ### slices.ContainsFunc: function 126 -/
def slices_ContainsFunc126_c125.f (k : Nat) (a0 : List S30) (a1 : Int) : Option Bool := (slices_IndexFunc132_c125.f k a0 a1).bind fun r0 => some (decide (r0 ≥ 0))
def slices_ContainsFunc126_c125.sig (k : Nat) : Sig E.toTys := ⟨[.slice (.st 1), .ext 125 (.int .i64)], [(false, .bool)], none, fun x => f k x.1 x.2.1⟩
noncomputable def slices_ContainsFunc126_c125.body : Code := Try.f126.body.getD .skip
def slices_ContainsFunc126_c125.calls (k : Nat) : List (Nat × Sig E.toTys) := [(132, slices_IndexFunc132_c125.sig k)]
def slices_ContainsFunc126_c125.cuts : List (Cut E (RT E.toTys [(false, .bool)])) := []
theorem slices_ContainsFunc126_c125.ok (k : Nat) : Okf (XR E) Try.prog 126 (slices_ContainsFunc126_c125.sig k) := ⟨fn_ok (C := fun k => tab.ctx fun f => lk f (slices_ContainsFunc126_c125.calls k)) (fun k => tie _) k (fun j hj => calls_ok (kc (slices_IndexFunc132_c125.ok j) (kn))) 400 Try.func126 (body := slices_ContainsFunc126_c125.body) (res := [.tmp 4]) rfl (by kernel_rfl) slices_ContainsFunc126_c125.cuts (kn) (fun x => by kernel_rfl), _, Try.func126, by kernel_rfl, by kernel_rfl⟩
/-! ### slices.IndexFunc: function 115 -/
def slices_IndexFunc115_c125.l2 : Nat → List S30 → Int → Int → Int → Option Int
  | 0, _, _, _, _ => none
  | k + 1, x0, x1, x2, x3 => if x3 < x2 then (if 0 ≤ x3 then (if x3 < (x0.length : Int) then ((packv_ask_1.f k (rd30 x0 x3) (some x1)).bind fun r0 => if r0 = true then some x3 else slices_IndexFunc115_c125.l2 k x0 x1 x2 (wrap64 (x3 + 1))) else none) else none) else some (-1)
def slices_IndexFunc115_c125.f (k : Nat) (a0 : List S30) (a1 : Int) : Option Int := slices_IndexFunc115_c125.l2 k a0 a1 (a0.length : Int) 0
def slices_IndexFunc115_c125.sig (k : Nat) : Sig E.toTys := ⟨[.slice (.st 1), .ext 125 (.int .i64)], [(false, .int .i64)], none, fun x => f k x.1 x.2.1⟩
noncomputable def slices_IndexFunc115_c125.body : Code := Try.f115.body.getD .skip
def slices_IndexFunc115_c125.calls (k : Nat) : List (Nat × Sig E.toTys) := [(125, packv_ask_1.sig k)]
def slices_IndexFunc115_c125.cuts : List (Cut E (RT E.toTys [(false, .int .i64)])) := [⟨true, 2, ⟨cat [.one (.val (.slice (.st 1))), .one (.val (.ext 125 (.int .i64)))] (cat (ds 5) (cat [.one (.val (.int .i64)), .one (.val (.int .i64))] (ds 10))), [], false⟩, fun k x => slices_IndexFunc115_c125.l2 k x.1.1 x.1.2.1 x.1.2.2.1 x.1.2.2.2.1⟩]
theorem slices_IndexFunc115_c125.ok (k : Nat) : Okf (XR E) Try.prog 115 (slices_IndexFunc115_c125.sig k) := ⟨fn_ok (C := fun k => tab.ctx fun f => lk f (slices_IndexFunc115_c125.calls k)) (fun k => tie _) k (fun j hj => calls_ok (kc (packv_ask_1.ok j) (kn))) 400 Try.func115 (body := slices_IndexFunc115_c125.body) (res := [.tmp 4]) rfl (by kernel_rfl) slices_IndexFunc115_c125.cuts (kc ⟨by kernel_rfl, rfl, fun _ => rfl, fun _ _ => by kernel_rfl⟩ (kn)) (fun x => by kernel_rfl), _, Try.func115, by kernel_rfl, by kernel_rfl⟩
/-! ### slices.ContainsFunc: function 90 -/
def slices_ContainsFunc90_c125.f (k : Nat) (a0 : List S30) (a1 : Int) : Option Bool := (slices_IndexFunc115_c125.f k a0 a1).bind fun r0 => some (decide (r0 ≥ 0))
def slices_ContainsFunc90_c125.sig (k : Nat) : Sig E.toTys := ⟨[.slice (.st 1), .ext 125 (.int .i64)], [(false, .bool)], none, fun x => f k x.1 x.2.1⟩
noncomputable def slices_ContainsFunc90_c125.body : Code := Try.f90.body.getD .skip
def slices_ContainsFunc90_c125.calls (k : Nat) : List (Nat × Sig E.toTys) := [(115, slices_IndexFunc115_c125.sig k)]
def slices_ContainsFunc90_c125.cuts : List (Cut E (RT E.toTys [(false, .bool)])) := []
theorem slices_ContainsFunc90_c125.ok (k : Nat) : Okf (XR E) Try.prog 90 (slices_ContainsFunc90_c125.sig k) := ⟨fn_ok (C := fun k => tab.ctx fun f => lk f (slices_ContainsFunc90_c125.calls k)) (fun k => tie _) k (fun j hj => calls_ok (kc (slices_IndexFunc115_c125.ok j) (kn))) 400 Try.func90 (body := slices_ContainsFunc90_c125.body) (res := [.tmp 4]) rfl (by kernel_rfl) slices_ContainsFunc90_c125.cuts (kn) (fun x => by kernel_rfl), _, Try.func90, by kernel_rfl, by kernel_rfl⟩
/-! ### steeple/packv.ask: function 110 -/
mutual
def packv_ask.l4 : Nat → List (List S30) → List S30 → List (List S30) → Int → Int → Int → Option Int
  | 0, _, _, _, _, _, _ => none
  | k + 1, x0, x1, x2, x3, x4, x5 => if x4 < x3 then (if 0 ≤ x4 then (if x4 < (x2.length : Int) then ((packv_size.f k x5).bind fun r1 => if ((rdL x2 x4).length : Int) = r1 then packv_ask.l4 k x0 x1 x2 x3 (wrap64 (x4 + 1)) x5 else some 6) else none) else none) else packv_ask.l11 k x1 x0 (x0.length : Int) 0 x5
def packv_ask.l11 : Nat → List S30 → List (List S30) → Int → Int → Int → Option Int
  | 0, _, _, _, _, _ => none
  | k + 1, x0, x1, x2, x3, x4 => if x3 < x2 then (if 0 ≤ x3 then (if x3 < (x1.length : Int) then ((slices_ContainsFunc126_c125.f k (rdL x1 x3) x4).bind fun r2 => if r2 = true then some 5 else packv_ask.l11 k x0 x1 x2 (wrap64 (x3 + 1)) x4) else none) else none) else (slices_ContainsFunc90_c125.f k x0 x4).bind fun r3 => if r3 = true then some 5 else some 0
end
def packv_ask.f (k : Nat) (a0 : Int) (a1 : List (List S30)) (a2 : List S30) : Option Int := (packv_size.f k a0).bind fun r0 => if r0 = 0 then some 1 else packv_ask.l4 k a1 a2 a1 (a1.length : Int) 0 a0
def packv_ask.sig (k : Nat) : Sig E.toTys := ⟨[.int .i64, .slice (.slice (.st 1)), .slice (.st 1)], [(false, .int .i64)], none, fun x => f k x.1 x.2.1 x.2.2.1⟩
noncomputable def packv_ask.body : Code := Try.f110.body.getD .skip
def packv_ask.calls (k : Nat) : List (Nat × Sig E.toTys) := [(109, packv_size.sig k), (126, slices_ContainsFunc126_c125.sig k), (90, slices_ContainsFunc90_c125.sig k)]
def packv_ask.cuts : List (Cut E (RT E.toTys [(false, .int .i64)])) := [⟨true, 4, ⟨cat (ds 1) (cat [.one (.val (.slice (.slice (.st 1)))), .one (.val (.slice (.st 1))), .one (.ptr 0 0)] (cat (ds 11) (cat [.one (.val (.slice (.slice (.st 1)))), .one (.val (.int .i64)), .one (.val (.int .i64))] (ds 23)))), [.var [.val (.int .i64)]], false⟩, fun k x => packv_ask.l4 k x.1.1 x.1.2.1 x.1.2.2.1 x.1.2.2.2.1 x.1.2.2.2.2.1 x.2.1.1⟩,
  ⟨true, 11, ⟨cat (ds 2) (cat [.one (.val (.slice (.st 1)))] (cat (ds 6) (cat [.clo 125 [.ptr 0 0]] (cat (ds 18) (cat [.one (.val (.slice (.slice (.st 1)))), .one (.val (.int .i64)), .one (.val (.int .i64))] (ds 10)))))), [.var [.val (.int .i64)]], false⟩, fun k x => packv_ask.l11 k x.1.1 x.1.2.2.1 x.1.2.2.2.1 x.1.2.2.2.2.1 x.2.1.1⟩]
theorem packv_ask.ok (k : Nat) : Okf (XR E) Try.prog 110 (packv_ask.sig k) := ⟨fn_ok (C := fun k => tab.ctx fun f => lk f (packv_ask.calls k)) (fun k => tie _) k (fun j hj => calls_ok (kc (packv_size.ok j) (kc (slices_ContainsFunc126_c125.ok j) (kc (slices_ContainsFunc90_c125.ok j) (kn))))) 400 Try.func110 (body := packv_ask.body) (res := [.tmp 6]) rfl (by kernel_rfl) packv_ask.cuts (kc ⟨by kernel_rfl, rfl, fun _ => rfl, fun _ _ => by kernel_rfl⟩ (kc ⟨by kernel_rfl, rfl, fun _ => rfl, fun _ _ => by kernel_rfl⟩ (kn))) (fun x => by kernel_rfl), _, Try.func110, by kernel_rfl, by kernel_rfl⟩
/-! ### steeple/tower.Bits: function 129 -/
def tower_Bits.l5 : Nat → Int → Int → Int → Int → List Bool → Option (List Bool)
  | 0, _, _, _, _, _ => none
  | k + 1, x0, x1, x2, x3, x4 => if x1 < x0 then ((tower_Bit.f k x1).bind fun r1 => if x4.length + [!decide (bits .or .u64 (bits .and .u64 x3 r1.f1) (bits .and .u64 x2 r1.f0) = 0)].length ≤ 140737488355328 / 1 then tower_Bits.l5 k x0 (wrap64 (x1 + 1)) x2 x3 (x4 ++ [!decide (bits .or .u64 (bits .and .u64 x3 r1.f1) (bits .and .u64 x2 r1.f0) = 0)]) else none) else some x4
def tower_Bits.f (k : Nat) (a0 : Int) (a1 : S30) : Option (List Bool) := (octet_Of.f k a0 a1).bind fun r0 => if (!r0) = true then some [] else if 0 ≤ a0 then tower_Bits.l5 k (shl .i64 1 a0) 0 a1.f0 a1.f1 [] else none
def tower_Bits.sig (k : Nat) : Sig E.toTys := ⟨[.int .i64, .st 1], [(true, .slice .bool)], none, fun x => f k x.1 x.2.1⟩
noncomputable def tower_Bits.body : Code := Try.f129.body.getD .skip
def tower_Bits.calls (k : Nat) : List (Nat × Sig E.toTys) := [(70, octet_Of.sig k), (105, tower_Bit.sig k)]
def tower_Bits.cuts : List (Cut E (RT E.toTys [(true, .slice .bool)])) := [⟨true, 5, ⟨cat (ds 3) (cat [.one (.ptr 0 0)] (cat (ds 1) (cat [.one (.ref 1)] (cat (ds 7) (cat [.one (.val (.int .i64)), .one (.val (.int .i64))] (ds 21)))))), [.var [.val (.int .u64), .val (.int .u64)], .arr (.bool)], false⟩, fun k x => tower_Bits.l5 k x.1.1 x.1.2.1 x.2.1.1 x.2.1.2.1 x.2.2.1⟩]
theorem tower_Bits.ok (k : Nat) : Okf (XR E) Try.prog 129 (tower_Bits.sig k) := ⟨fn_ok (C := fun k => tab.ctx fun f => lk f (tower_Bits.calls k)) (fun k => tie _) k (fun j hj => calls_ok (kc (octet_Of.ok j) (kc (tower_Bit.ok j) (kn)))) 400 Try.func129 (body := tower_Bits.body) (res := [.tmp 4]) rfl (by kernel_rfl) tower_Bits.cuts (kc ⟨by kernel_rfl, rfl, fun _ => rfl, fun _ _ => by kernel_rfl⟩ (kn)) (fun x => by kernel_rfl), _, Try.func129, by kernel_rfl, by kernel_rfl⟩
/-! ### steeple/packv.Left: function 128 -/
def packv_Left.l5 : Nat → Int → Int → List S30 → List Bool → Option (List S30)
  | 0, _, _, _, _ => none
  | k + 1, x0, x1, x2, x3 => if x1 < x0 then (if 0 ≤ x1 then (if x1 < (x3.length : Int) then (if (rdB x3 x1) = true then ((tower_One.f k).bind fun r3 => if 0 ≤ x1 then (if x1 < (x2.length : Int) then packv_Left.l5 k x0 (wrap64 (x1 + 1)) (x2.set (Int.toNat x1) r3) x3 else none) else none) else packv_Left.l5 k x0 (wrap64 (x1 + 1)) x2 x3) else none) else none) else some x2
def packv_Left.f (k : Nat) (a0 : Int) (a1 : S30) : Option (List S30) := (octet_Of.f k a0 a1).bind fun r0 => if (!r0) = true then some [] else (packv_size.f k a0).bind fun r1 => if 0 ≤ r1 then (if r1 ≤ 140737488355328 / ((16 : Nat) : Int) then ((tower_Bits.f k a0 a1).bind fun r2 => packv_Left.l5 k (r2.length : Int) 0 (List.replicate (Int.toNat r1) z30) r2) else none) else none
def packv_Left.sig (k : Nat) : Sig E.toTys := ⟨[.int .i64, .st 1], [(true, .slice (.st 1))], none, fun x => f k x.1 x.2.1⟩
noncomputable def packv_Left.body : Code := Try.f128.body.getD .skip
def packv_Left.calls (k : Nat) : List (Nat × Sig E.toTys) := [(70, octet_Of.sig k), (109, packv_size.sig k), (129, tower_Bits.sig k), (92, tower_One.sig k)]
def packv_Left.cuts : List (Cut E (RT E.toTys [(true, .slice (.st 1))])) := [⟨true, 5, ⟨cat (ds 5) (cat [.one (.ref 0)] (cat (ds 11) (cat [.one (.ref 1), .one (.val (.int .i64)), .one (.val (.int .i64))] (ds 11)))), [.arr (.st 1), .arr (.bool)], false⟩, fun k x => packv_Left.l5 k x.1.1 x.1.2.1 x.2.1 x.2.2.1⟩]
theorem packv_Left.ok (k : Nat) : Okf (XR E) Try.prog 128 (packv_Left.sig k) := ⟨fn_ok (C := fun k => tab.ctx fun f => lk f (packv_Left.calls k)) (fun k => tie _) k (fun j hj => calls_ok (kc (octet_Of.ok j) (kc (packv_size.ok j) (kc (tower_Bits.ok j) (kc (tower_One.ok j) (kn)))))) 400 Try.func128 (body := packv_Left.body) (res := [.tmp 4]) rfl (by kernel_rfl) packv_Left.cuts (kc ⟨by kernel_rfl, rfl, fun _ => rfl, fun _ _ => by kernel_rfl⟩ (kn)) (fun x => by kernel_rfl), _, Try.func128, by kernel_rfl, by kernel_rfl⟩
/-! ### steeple/packv.One: function 112 -/
def packv_One.f (k : Nat) (a0 : Int) : Option (List S30) := (tower_One.f k).bind fun r0 => (packv_Left.f k a0 r0).bind fun r1 => some r1
def packv_One.sig (k : Nat) : Sig E.toTys := ⟨[.int .i64], [(true, .slice (.st 1))], none, fun x => f k x.1⟩
noncomputable def packv_One.body : Code := Try.f112.body.getD .skip
def packv_One.calls (k : Nat) : List (Nat × Sig E.toTys) := [(92, tower_One.sig k), (128, packv_Left.sig k)]
def packv_One.cuts : List (Cut E (RT E.toTys [(true, .slice (.st 1))])) := []
theorem packv_One.ok (k : Nat) : Okf (XR E) Try.prog 112 (packv_One.sig k) := ⟨fn_ok (C := fun k => tab.ctx fun f => lk f (packv_One.calls k)) (fun k => tie _) k (fun j hj => calls_ok (kc (tower_One.ok j) (kc (packv_Left.ok j) (kn)))) 400 Try.func112 (body := packv_One.body) (res := [.tmp 2]) rfl (by kernel_rfl) packv_One.cuts (kn) (fun x => by kernel_rfl), _, Try.func112, by kernel_rfl, by kernel_rfl⟩
/-! ### slices.Clone: function 113 -/
def slices_Clone113.f (k : Nat) (a0 : List S30) : Option (List S30) := if ([] : List Int).length + a0.length ≤ 140737488355328 / 16 then some ([] ++ a0) else none
def slices_Clone113.sig (k : Nat) : Sig E.toTys := ⟨[.slice (.st 1)], [(true, .slice (.st 1))], none, fun x => f k x.1⟩
noncomputable def slices_Clone113.body : Code := Try.f113.body.getD .skip
def slices_Clone113.calls (k : Nat) : List (Nat × Sig E.toTys) := []
def slices_Clone113.cuts : List (Cut E (RT E.toTys [(true, .slice (.st 1))])) := []
noncomputable def slices_Clone113.fn0 : Func := Try.f113
def slices_Clone113.st0 (xs : List S30) : St E.toTys := ⟨[.c (.s (.val (.slice (.st 1)) xs)), .c (.s .dead), .c (.s .emp), .c (.s .dead), .c (.s .dead), .c (.s .dead), .c (.s .dead), .c (.s .dead)], []⟩
theorem slices_Clone113.ok (k : Nat) : Okf (XR E) Try.prog 113 (slices_Clone113.sig k) := ⟨clone_ok (C := tab.ctx fun f => lk f (slices_Clone113.calls k)) (tie _) (calls_ok kn) (t := 119) (u := .st 1) Try.func113 rfl (res := [.tmp 2]) (by kernel_rfl) ⟨rfl, rfl, rfl⟩ ⟨rfl, rfl, rfl⟩ (by kernel_rfl) slices_Clone113.st0 (fun x => by kernel_rfl) (fun _ => rfl) (fun _ _ => ⟨rfl, rfl⟩) (F := fun x => slices_Clone113.f k x) (by kernel_rfl) (fun xs => by kernel_rfl), _, Try.func113, by kernel_rfl, by kernel_rfl⟩
/-! ### steeple/packv.byLeft: function 114 -/
mutual
def packv_byLeft.l2 : Nat → Int → List S30 → Int → Int → List S30 → Int → Int → Int → Int → Option (List S30)
  | 0, _, _, _, _, _, _, _, _, _ => none
  | k + 1, x0, x1, x2, x3, x4, x5, x6, x7, x8 => if x3 < x2 then (if 0 ≤ x3 then (if x3 < (x1.length : Int) then ((tower_Mul.f k x0 (rd30 x1 x3) (⟨x7, x8⟩ : S30)).bind fun r0 => if r0.f0 = 0 ∧ r0.f1 = 0 then packv_byLeft.l2 k x0 x1 x2 (wrap64 (x3 + 1)) x4 x5 x6 x7 x8 else (tower_Bit.f k x3).bind fun r1 => (tower_Mul.f k x0 r1 (⟨x5, x6⟩ : S30)).bind fun r2 => (tower_Bits.f k x0 r2).bind fun r3 => packv_byLeft.l7 k x0 x1 x2 x3 (r3.length : Int) 0 x4 x5 x6 x7 x8 r0.f0 r0.f1 r3) else none) else none) else some x4
def packv_byLeft.l7 : Nat → Int → List S30 → Int → Int → Int → Int → List S30 → Int → Int → Int → Int → Int → Int → List Bool → Option (List S30)
  | 0, _, _, _, _, _, _, _, _, _, _, _, _, _, _ => none
  | k + 1, x0, x1, x2, x3, x4, x5, x6, x7, x8, x9, x10, x11, x12, x13 => if x5 < x4 then (if 0 ≤ x5 then (if x5 < (x13.length : Int) then (if (rdB x13 x5) = true then (if 0 ≤ x5 then (if x5 < (x6.length : Int) then ((tower_Add.f k (rd30 x6 x5) (⟨x11, x12⟩ : S30)).bind fun r4 => if 0 ≤ x5 then (if x5 < (x6.length : Int) then packv_byLeft.l7 k x0 x1 x2 x3 x4 (wrap64 (x5 + 1)) (x6.set (Int.toNat x5) r4) x7 x8 x9 x10 x11 x12 x13 else none) else none) else none) else none) else packv_byLeft.l7 k x0 x1 x2 x3 x4 (wrap64 (x5 + 1)) x6 x7 x8 x9 x10 x11 x12 x13) else none) else none) else packv_byLeft.l2 k x0 x1 x2 (wrap64 (x3 + 1)) x6 x7 x8 x9 x10
end
def packv_byLeft.f (k : Nat) (a0 : Int) (a1 : List S30) (a2 : List S30) (a3 : S30) (a4 : S30) : Option (List S30) := packv_byLeft.l2 k a0 a2 (a2.length : Int) 0 a1 a3.f0 a3.f1 a4.f0 a4.f1
def packv_byLeft.sig (k : Nat) : Sig E.toTys := ⟨[.int .i64, .slice (.st 1), .slice (.st 1), .st 1, .st 1], [(true, .slice (.st 1))], some 1, fun x => f k x.1 x.2.1 x.2.2.1 x.2.2.2.1 x.2.2.2.2.1⟩
noncomputable def packv_byLeft.body : Code := Try.f114.body.getD .skip
def packv_byLeft.calls (k : Nat) : List (Nat × Sig E.toTys) := [(74, tower_Mul.sig k), (105, tower_Bit.sig k), (129, tower_Bits.sig k), (62, tower_Add.sig k)]
def packv_byLeft.cuts : List (Cut E (RT E.toTys [(true, .slice (.st 1))])) := [⟨true, 2, ⟨cat [.one (.val (.int .i64)), .one (.ref 0)] (cat (ds 6) (cat [.one (.ptr 1 0), .one (.ptr 2 0)] (cat (ds 5) (cat [.one (.val (.slice (.st 1))), .one (.val (.int .i64)), .one (.val (.int .i64))] (ds 36))))), [.arr (.st 1), .var [.val (.int .u64), .val (.int .u64)], .var [.val (.int .u64), .val (.int .u64)]], true⟩, fun k x => packv_byLeft.l2 k x.1.1 x.1.2.1 x.1.2.2.1 x.1.2.2.2.1 x.2.1 x.2.2.1.1 x.2.2.1.2.1 x.2.2.2.1.1 x.2.2.2.1.2.1⟩,
  ⟨true, 7, ⟨cat [.one (.val (.int .i64)), .one (.ref 0)] (cat (ds 6) (cat [.one (.ptr 1 0), .one (.ptr 2 0)] (cat (ds 2) (cat [.one (.ptr 3 0)] (cat (ds 2) (cat [.one (.val (.slice (.st 1))), .one (.val (.int .i64)), .one (.val (.int .i64))] (cat (ds 17) (cat [.one (.ref 4), .one (.val (.int .i64)), .one (.val (.int .i64))] (ds 16))))))))), [.arr (.st 1), .var [.val (.int .u64), .val (.int .u64)], .var [.val (.int .u64), .val (.int .u64)], .var [.val (.int .u64), .val (.int .u64)], .arr (.bool)], true⟩, fun k x => packv_byLeft.l7 k x.1.1 x.1.2.1 x.1.2.2.1 x.1.2.2.2.1 x.1.2.2.2.2.1 x.1.2.2.2.2.2.1 x.2.1 x.2.2.1.1 x.2.2.1.2.1 x.2.2.2.1.1 x.2.2.2.1.2.1 x.2.2.2.2.1.1 x.2.2.2.2.1.2.1 x.2.2.2.2.2.1⟩]
theorem packv_byLeft.ok (k : Nat) : Okf (XR E) Try.prog 114 (packv_byLeft.sig k) := ⟨fn_okIO (C := fun k => tab.ctx fun f => lk f (packv_byLeft.calls k)) (fun k => tie _) k (fun j hj => calls_ok (kc (tower_Mul.ok j) (kc (tower_Bit.ok j) (kc (tower_Bits.ok j) (kc (tower_Add.ok j) (kn)))))) 400 1 Try.func114 (body := packv_byLeft.body) (res := []) rfl (by kernel_rfl) packv_byLeft.cuts (kc ⟨by kernel_rfl, rfl, fun _ => rfl, fun _ _ => by kernel_rfl⟩ (kc ⟨by kernel_rfl, rfl, fun _ => rfl, fun _ _ => by kernel_rfl⟩ (kn))) (fun x => by kernel_rfl), _, Try.func114, by kernel_rfl, by kernel_rfl⟩
/-! ### steeple/packv.Alike: function 87 -/
mutual
def packv_Alike.l10 : Nat → Int → List S30 → List S30 → Int → Int → List S30 → Option ((List S30) × Int)
  | 0, _, _, _, _, _, _ => none
  | k + 1, x0, x1, x2, x3, x4, x5 => if x4 < x3 then ((slices_Clone113.f k x5).bind fun r4 => if 0 ≤ x4 then (if x4 < (x1.length : Int) then ((tower_One.f k).bind fun r5 => (packv_byLeft.f k x0 r4 x5 (rd30 x1 x4) r5).bind fun r6 => packv_Alike.l15 k x0 x1 x2 x4 x3 x4 (x5.length : Int) 0 r6 x5) else none) else none) else some (x5, 0)
def packv_Alike.l15 : Nat → Int → List S30 → List S30 → Int → Int → Int → Int → Int → List S30 → List S30 → Option ((List S30) × Int)
  | 0, _, _, _, _, _, _, _, _, _, _ => none
  | k + 1, x0, x1, x2, x3, x4, x5, x6, x7, x8, x9 => if x7 < x6 then (if 0 ≤ x7 then (if x7 < (x9.length : Int) then (if 0 ≤ x7 then (if x7 < (x8.length : Int) then (if 0 ≤ x3 then (if x3 < (x2.length : Int) then ((tower_Mul.f k x0 (rd30 x9 x7) (rd30 x2 x3)).bind fun r7 => (tower_Add.f k (rd30 x8 x7) r7).bind fun r8 => if 0 ≤ x7 then (if x7 < (x8.length : Int) then packv_Alike.l15 k x0 x1 x2 x3 x4 x5 x6 (wrap64 (x7 + 1)) (x8.set (Int.toNat x7) r8) x9 else none) else none) else none) else none) else none) else none) else none) else none) else packv_Alike.l10 k x0 x1 x2 x4 (wrap64 (x5 + 1)) x8
end
def packv_Alike.f (k : Nat) (a0 : Int) (a1 : List S30) (a2 : List S30) : Option ((List S30) × Int) := (packv_size.f k a0).bind fun r0 => if r0 = 0 then some ([], 1) else if (a1.length : Int) = (a2.length : Int) then (if (a1.length : Int) > 16 then some ([], 6) else (slices_Concat111.f k [a1, a2]).bind fun r1 => (packv_ask.f k a0 [] r1).bind fun r2 => if r2 = 0 then ((packv_One.f k a0).bind fun r3 => packv_Alike.l10 k a0 a1 a2 (a1.length : Int) 0 r3) else some ([], r2)) else some ([], 6)
def packv_Alike.sig (k : Nat) : Sig E.toTys := ⟨[.int .i64, .slice (.st 1), .slice (.st 1)], [(true, .slice (.st 1)), (false, .int .i64)], none, fun x => f k x.1 x.2.1 x.2.2.1⟩
noncomputable def packv_Alike.body : Code := Try.f87.body.getD .skip
def packv_Alike.calls (k : Nat) : List (Nat × Sig E.toTys) := [(109, packv_size.sig k), (111, slices_Concat111.sig k), (110, packv_ask.sig k), (112, packv_One.sig k), (113, slices_Clone113.sig k), (92, tower_One.sig k), (114, packv_byLeft.sig k), (74, tower_Mul.sig k), (62, tower_Add.sig k)]
def packv_Alike.cuts : List (Cut E (RT E.toTys [(true, .slice (.st 1)), (false, .int .i64)])) := [⟨true, 10, ⟨cat [.one (.val (.int .i64)), .one (.val (.slice (.st 1))), .one (.val (.slice (.st 1)))] (cat (ds 6) (cat [.one (.ref 0)] (cat (ds 31) (cat [.one (.val (.int .i64)), .one (.val (.int .i64))] (ds 39))))), [.arr (.st 1)], false⟩, fun k x => packv_Alike.l10 k x.1.1 x.1.2.1 x.1.2.2.1 x.1.2.2.2.1 x.1.2.2.2.2.1 x.2.1⟩,
  ⟨true, 15, ⟨cat [.one (.val (.int .i64)), .one (.val (.slice (.st 1))), .one (.val (.slice (.st 1)))] (cat (ds 7) (cat [.one (.val (.int .i64)), .one (.ref 0)] (cat (ds 29) (cat [.one (.val (.int .i64)), .one (.val (.int .i64))] (cat (ds 13) (cat [.one (.ref 1), .one (.val (.int .i64)), .one (.val (.int .i64))] (ds 23))))))), [.arr (.st 1), .arr (.st 1)], false⟩, fun k x => packv_Alike.l15 k x.1.1 x.1.2.1 x.1.2.2.1 x.1.2.2.2.1 x.1.2.2.2.2.1 x.1.2.2.2.2.2.1 x.1.2.2.2.2.2.2.1 x.1.2.2.2.2.2.2.2.1 x.2.1 x.2.2.1⟩]
theorem packv_Alike.ok (k : Nat) : Okf (XR E) Try.prog 87 (packv_Alike.sig k) := ⟨fn_ok (C := fun k => tab.ctx fun f => lk f (packv_Alike.calls k)) (fun k => tie _) k (fun j hj => calls_ok (kc (packv_size.ok j) (kc (slices_Concat111.ok j) (kc (packv_ask.ok j) (kc (packv_One.ok j) (kc (slices_Clone113.ok j) (kc (tower_One.ok j) (kc (packv_byLeft.ok j) (kc (tower_Mul.ok j) (kc (tower_Add.ok j) (kn))))))))))) 400 Try.func87 (body := packv_Alike.body) (res := [.tmp 6, .tmp 7]) rfl (by kernel_rfl) packv_Alike.cuts (kc ⟨by kernel_rfl, rfl, fun _ => rfl, fun _ _ => by kernel_rfl⟩ (kc ⟨by kernel_rfl, rfl, fun _ => rfl, fun _ _ => by kernel_rfl⟩ (kn))) (fun x => by kernel_rfl), _, Try.func87, by kernel_rfl, by kernel_rfl⟩
/-! ### steeple/packv.Fold: function 88 -/
def packv_Fold.f (k : Nat) (a0 : Int) (a1 : List S30) (a2 : List S30) : Option (S30 × Int) := (packv_ask.f k a0 [a1, a2] []).bind fun r0 => if r0 = 0 then ((tower_Dot.f k a0 a1 a2).bind fun r1 => some (r1, 0)) else some ((⟨0, 0⟩ : S30), r0)
def packv_Fold.sig (k : Nat) : Sig E.toTys := ⟨[.int .i64, .slice (.st 1), .slice (.st 1)], [(false, .st 1), (false, .int .i64)], none, fun x => f k x.1 x.2.1 x.2.2.1⟩
noncomputable def packv_Fold.body : Code := Try.f88.body.getD .skip
def packv_Fold.calls (k : Nat) : List (Nat × Sig E.toTys) := [(110, packv_ask.sig k), (35, tower_Dot.sig k)]
def packv_Fold.cuts : List (Cut E (RT E.toTys [(false, .st 1), (false, .int .i64)])) := []
theorem packv_Fold.ok (k : Nat) : Okf (XR E) Try.prog 88 (packv_Fold.sig k) := ⟨fn_ok (C := fun k => tab.ctx fun f => lk f (packv_Fold.calls k)) (fun k => tie _) k (fun j hj => calls_ok (kc (packv_ask.ok j) (kc (tower_Dot.ok j) (kn)))) 400 Try.func88 (body := packv_Fold.body) (res := [.cell 6 30, .tmp 7]) rfl (by kernel_rfl) packv_Fold.cuts (kn) (fun x => by kernel_rfl), _, Try.func88, by kernel_rfl, by kernel_rfl⟩
/-! ### steeple/ring.At: function 53 -/
def ring_At.f (k : Nat) (a0 : Int) (a1 : List S30) (a2 : List S30) (a3 : List S30) : Option (S30 × Int) := (ring_mayMask.f k a0 a1 a2).bind fun r0 => if r0 = 0 then (if (a3.length : Int) = (a1.length : Int) then ((ring_of.f k a0 a3).bind fun r1 => if (!r1) = true then some ((⟨0, 0⟩ : S30), 5) else (packv_Alike.f k a0 a1 a3).bind fun r2 => (cube_Weights.f k a0 a2).bind fun r3 => (packv_Fold.f k a0 r2.1 r3).bind fun r4 => some (r4.1, r4.2)) else some ((⟨0, 0⟩ : S30), 6)) else some ((⟨0, 0⟩ : S30), r0)
def ring_At.sig (k : Nat) : Sig E.toTys := ⟨[.int .i64, .slice (.st 1), .slice (.st 1), .slice (.st 1)], [(false, .st 1), (false, .int .i64)], none, fun x => f k x.1 x.2.1 x.2.2.1 x.2.2.2.1⟩
noncomputable def ring_At.body : Code := Try.f53.body.getD .skip
def ring_At.calls (k : Nat) : List (Nat × Sig E.toTys) := [(85, ring_mayMask.sig k), (80, ring_of.sig k), (87, packv_Alike.sig k), (63, cube_Weights.sig k), (88, packv_Fold.sig k)]
def ring_At.cuts : List (Cut E (RT E.toTys [(false, .st 1), (false, .int .i64)])) := []
theorem ring_At.ok (k : Nat) : Okf (XR E) Try.prog 53 (ring_At.sig k) := ⟨fn_ok (C := fun k => tab.ctx fun f => lk f (ring_At.calls k)) (fun k => tie _) k (fun j hj => calls_ok (kc (ring_mayMask.ok j) (kc (ring_of.ok j) (kc (packv_Alike.ok j) (kc (cube_Weights.ok j) (kc (packv_Fold.ok j) (kn))))))) 400 Try.func53 (body := ring_At.body) (res := [.cell 8 30, .tmp 9]) rfl (by kernel_rfl) ring_At.cuts (kn) (fun x => by kernel_rfl), _, Try.func53, by kernel_rfl, by kernel_rfl⟩
/-! ### steeple/steepleref23.MayMask: function 54 -/
def steepleref23_MayMask.f (k : Nat) (a0 : Int) (a1 : List S40) (a2 : List S40) : Option Int := if a0 < 0 then some 1 else if a0 > 7 then some 1 else if (a1.length : Int) > 12 then some 6 else if (a2.length : Int) = a0 then ((steepleref06_All.f k a0 a1).bind fun r0 => if (!r0) = true then some 5 else (steepleref06_All.f k a0 a2).bind fun r1 => if (!r1) = true then some 5 else some 0) else some 6
def steepleref23_MayMask.sig (k : Nat) : Sig E.toTys := ⟨[.int .i64, .slice (.st 3), .slice (.st 3)], [(false, .int .i64)], none, fun x => f k x.1 x.2.1 x.2.2.1⟩
noncomputable def steepleref23_MayMask.body : Code := Try.f54.body.getD .skip
def steepleref23_MayMask.calls (k : Nat) : List (Nat × Sig E.toTys) := [(27, steepleref06_All.sig k)]
def steepleref23_MayMask.cuts : List (Cut E (RT E.toTys [(false, .int .i64)])) := []
theorem steepleref23_MayMask.ok (k : Nat) : Okf (XR E) Try.prog 54 (steepleref23_MayMask.sig k) := ⟨fn_ok (C := fun k => tab.ctx fun f => lk f (steepleref23_MayMask.calls k)) (fun k => tie _) k (fun j hj => calls_ok (kc (steepleref06_All.ok j) (kn))) 400 Try.func54 (body := steepleref23_MayMask.body) (res := [.tmp 6]) rfl (by kernel_rfl) steepleref23_MayMask.cuts (kn) (fun x => by kernel_rfl), _, Try.func54, by kernel_rfl, by kernel_rfl⟩
/-! ### steeple/steepleref23.Mask: function 55 -/
mutual
def steepleref23_Mask.l3 : Nat → Int → List S40 → List S40 → Int → List S40 → Option (List S40)
  | 0, _, _, _, _, _ => none
  | k + 1, x0, x1, x2, x3, x4 => (steepleref15_Two.f k (x1.length : Int)).bind fun r0 => if x3 < r0 then ((steepleref15_Weight.f k x1 x3).bind fun r1 => steepleref23_Mask.l8 k x0 x1 x2 x3 0 x4 r1.f0 r1.f1 0 0) else some x4
def steepleref23_Mask.l8 : Nat → Int → List S40 → List S40 → Int → Int → List S40 → Int → Int → Int → Int → Option (List S40)
  | 0, _, _, _, _, _, _, _, _, _, _ => none
  | k + 1, x0, x1, x2, x3, x4, x5, x6, x7, x8, x9 => (steepleref15_Two.f k x0).bind fun r2 => if x4 < r2 then ((steepleref02_Has.f k (⟨x6, x7⟩ : S40) x4).bind fun r3 => if r3 = true then ((steepleref15_Weight.f k x2 x4).bind fun r4 => (steepleref02_Add.f k (⟨x8, x9⟩ : S40) r4).bind fun r5 => steepleref23_Mask.l8 k x0 x1 x2 x3 (wrap64 (x4 + 1)) x5 x6 x7 r5.f0 r5.f1) else steepleref23_Mask.l8 k x0 x1 x2 x3 (wrap64 (x4 + 1)) x5 x6 x7 x8 x9) else if x5.length + [(⟨x8, x9⟩ : S40)].length ≤ 140737488355328 / 16 then steepleref23_Mask.l3 k x0 x1 x2 (wrap64 (x3 + 1)) (x5 ++ [(⟨x8, x9⟩ : S40)]) else none
end
def steepleref23_Mask.f (k : Nat) (a0 : Int) (a1 : List S40) (a2 : List S40) : Option (List S40) := steepleref23_Mask.l3 k a0 a1 a2 0 []
def steepleref23_Mask.sig (k : Nat) : Sig E.toTys := ⟨[.int .i64, .slice (.st 3), .slice (.st 3)], [(true, .slice (.st 3))], none, fun x => f k x.1 x.2.1 x.2.2.1⟩
noncomputable def steepleref23_Mask.body : Code := Try.f55.body.getD .skip
def steepleref23_Mask.calls (k : Nat) : List (Nat × Sig E.toTys) := [(29, steepleref15_Two.sig k), (68, steepleref15_Weight.sig k), (89, steepleref02_Has.sig k), (67, steepleref02_Add.sig k)]
def steepleref23_Mask.cuts : List (Cut E (RT E.toTys [(true, .slice (.st 3))])) := [⟨true, 3, ⟨cat [.one (.val (.int .i64)), .one (.val (.slice (.st 3))), .one (.val (.slice (.st 3)))] (cat (ds 4) (cat [.one (.ref 0), .one (.val (.int .i64))] (ds 32))), [.arr (.st 3)], false⟩, fun k x => steepleref23_Mask.l3 k x.1.1 x.1.2.1 x.1.2.2.1 x.1.2.2.2.1 x.2.1⟩,
  ⟨true, 8, ⟨cat [.one (.val (.int .i64)), .one (.val (.slice (.st 3))), .one (.val (.slice (.st 3)))] (cat (ds 4) (cat [.one (.ref 0), .one (.val (.int .i64)), .one (.ptr 1 0), .one (.ptr 2 0), .one (.val (.int .i64))] (ds 29))), [.arr (.st 3), .var [.val (.int .u64), .val (.int .u64)], .var [.val (.int .u64), .val (.int .u64)]], false⟩, fun k x => steepleref23_Mask.l8 k x.1.1 x.1.2.1 x.1.2.2.1 x.1.2.2.2.1 x.1.2.2.2.2.1 x.2.1 x.2.2.1.1 x.2.2.1.2.1 x.2.2.2.1.1 x.2.2.2.1.2.1⟩]
theorem steepleref23_Mask.ok (k : Nat) : Okf (XR E) Try.prog 55 (steepleref23_Mask.sig k) := ⟨fn_ok (C := fun k => tab.ctx fun f => lk f (steepleref23_Mask.calls k)) (fun k => tie _) k (fun j hj => calls_ok (kc (steepleref15_Two.ok j) (kc (steepleref15_Weight.ok j) (kc (steepleref02_Has.ok j) (kc (steepleref02_Add.ok j) (kn)))))) 400 Try.func55 (body := steepleref23_Mask.body) (res := [.tmp 6]) rfl (by kernel_rfl) steepleref23_Mask.cuts (kc ⟨by kernel_rfl, rfl, fun _ => rfl, fun _ _ => by kernel_rfl⟩ (kc ⟨by kernel_rfl, rfl, fun _ => rfl, fun _ _ => by kernel_rfl⟩ (kn))) (fun x => by kernel_rfl), _, Try.func55, by kernel_rfl, by kernel_rfl⟩
/-! ### steeple/steeplelaw23.RingMasks: function 12 -/
mutual
def steeplelaw23_RingMasks.j2 : Nat → Option Bool
  | 0 => none
  | k + 1 => (steeplelaw23_awake.f k).bind fun r0 => some r0
def steeplelaw23_RingMasks.j3 : Nat → Int → List S30 → List Bool → List S30 → List S30 → Option Bool
  | 0, _, _, _, _, _ => none
  | k + 1, x0, x1, _, x3, x4 => (steeplelaw01_Ref.f k x4).bind fun r1 => (steeplelaw01_Ref.f k x3).bind fun r2 => (ring_Mask.f k x0 x4 x3).bind fun r3 => (ring_At.f k x0 x4 x3 x1).bind fun r4 => (steepleref23_MayMask.f k x0 r1 r2).bind fun r5 => if r3.2 = r5 then (if r3.2 = 0 then ((steepleref23_Mask.f k x0 r1 r2).bind fun r6 => (steeplelaw01_Same.f k r3.1 r6).bind fun r7 => if (!r7) = true then some false else if (x1.length : Int) = (x4.length : Int) then ((steeplelaw01_Ref.f k x1).bind fun r8 => (steepleref06_All.f k x0 r8).bind fun r9 => if (!r9) = true then ((steeplelaw23_awake.f k).bind fun r10 => if r10 = true then (if r4.2 = 5 then some (decide (r4.1.f0 = 0 ∧ r4.1.f1 = 0)) else some false) else some false) else (steeplelaw23_awake.f k).bind fun r11 => if r11 = true then (if r4.2 = 0 then ((steeplelaw01_Ref.f k x1).bind fun r12 => (steepleref15_Value.f k r6 r12).bind fun r13 => some (decide (r4.1.f0 = r13.f0 ∧ r4.1.f1 = r13.f1))) else some false) else some false) else (steeplelaw23_awake.f k).bind fun r14 => if r14 = true then (if r4.2 = 6 then some (decide (r4.1.f0 = 0 ∧ r4.1.f1 = 0)) else some false) else some false) else (steeplelaw23_awake.f k).bind fun r15 => if r15 = true then (if r4.2 = r3.2 then (if (r3.1.length : Int) = 0 then some (decide (r4.1.f0 = 0 ∧ r4.1.f1 = 0)) else some false) else some false) else some false) else some false
end
def steeplelaw23_RingMasks.f (k : Nat) (a0 : Int) (a1 : S77) (a2 : List S30) : Option Bool := if a0 > 5 then (if a0 ≤ 7 then steeplelaw23_RingMasks.j2 k else if (a1.f2.length : Int) > 5 then (if (a1.f2.length : Int) ≤ 12 then steeplelaw23_RingMasks.j2 k else if (a1.f2.length : Int) > 20 then steeplelaw23_RingMasks.j2 k else if (a1.f1.length : Int) > 6 then steeplelaw23_RingMasks.j2 k else if (a2.length : Int) > 20 then steeplelaw23_RingMasks.j2 k else steeplelaw23_RingMasks.j3 k a0 a2 a1.f0 a1.f1 a1.f2) else if (a1.f2.length : Int) > 20 then steeplelaw23_RingMasks.j2 k else if (a1.f1.length : Int) > 6 then steeplelaw23_RingMasks.j2 k else if (a2.length : Int) > 20 then steeplelaw23_RingMasks.j2 k else steeplelaw23_RingMasks.j3 k a0 a2 a1.f0 a1.f1 a1.f2) else if (a1.f2.length : Int) > 5 then (if (a1.f2.length : Int) ≤ 12 then steeplelaw23_RingMasks.j2 k else if (a1.f2.length : Int) > 20 then steeplelaw23_RingMasks.j2 k else if (a1.f1.length : Int) > 6 then steeplelaw23_RingMasks.j2 k else if (a2.length : Int) > 20 then steeplelaw23_RingMasks.j2 k else steeplelaw23_RingMasks.j3 k a0 a2 a1.f0 a1.f1 a1.f2) else if (a1.f2.length : Int) > 20 then steeplelaw23_RingMasks.j2 k else if (a1.f1.length : Int) > 6 then steeplelaw23_RingMasks.j2 k else if (a2.length : Int) > 20 then steeplelaw23_RingMasks.j2 k else steeplelaw23_RingMasks.j3 k a0 a2 a1.f0 a1.f1 a1.f2
def steeplelaw23_RingMasks.sig (k : Nat) : Sig E.toTys := ⟨[.int .i64, .st 7, .slice (.st 1)], [(false, .bool)], none, fun x => f k x.1 x.2.1 x.2.2.1⟩
noncomputable def steeplelaw23_RingMasks.body : Code := Try.f12.body.getD .skip
def steeplelaw23_RingMasks.calls (k : Nat) : List (Nat × Sig E.toTys) := [(40, steeplelaw23_awake.sig k), (16, steeplelaw01_Ref.sig k), (51, ring_Mask.sig k), (53, ring_At.sig k), (54, steepleref23_MayMask.sig k), (55, steepleref23_Mask.sig k), (37, steeplelaw01_Same.sig k), (27, steepleref06_All.sig k), (39, steepleref15_Value.sig k)]
def steeplelaw23_RingMasks.cuts : List (Cut E (RT E.toTys [(false, .bool)])) := [⟨false, 2, ⟨ds 153, [], false⟩, fun k x => steeplelaw23_RingMasks.j2 k⟩,
  ⟨false, 3, ⟨cat [.one (.val (.int .i64))] (cat (ds 1) (cat [.one (.val (.slice (.st 1)))] (cat (ds 1) (cat [.one (.ptr 0 0)] (ds 148))))), [.var [.val (.slice .bool), .val (.slice (.st 1)), .val (.slice (.st 1))]], false⟩, fun k x => steeplelaw23_RingMasks.j3 k x.1.1 x.1.2.1 x.2.1.1 x.2.1.2.1 x.2.1.2.2.1⟩]
theorem steeplelaw23_RingMasks.ok (k : Nat) : Okf (XR E) Try.prog 12 (steeplelaw23_RingMasks.sig k) := ⟨fn_ok (C := fun k => tab.ctx fun f => lk f (steeplelaw23_RingMasks.calls k)) (fun k => tie _) k (fun j hj => calls_ok (kc (steeplelaw23_awake.ok j) (kc (steeplelaw01_Ref.ok j) (kc (ring_Mask.ok j) (kc (ring_At.ok j) (kc (steepleref23_MayMask.ok j) (kc (steepleref23_Mask.ok j) (kc (steeplelaw01_Same.ok j) (kc (steepleref06_All.ok j) (kc (steepleref15_Value.ok j) (kn))))))))))) 400 Try.func12 (body := steeplelaw23_RingMasks.body) (res := [.tmp 6]) rfl (by kernel_rfl) steeplelaw23_RingMasks.cuts (kc ⟨by kernel_rfl, rfl, fun _ => rfl, fun _ _ => by kernel_rfl⟩ (kc ⟨by kernel_rfl, rfl, fun _ => rfl, fun _ _ => by kernel_rfl⟩ (kn))) (fun x => by kernel_rfl), _, Try.func12, by kernel_rfl, by kernel_rfl⟩
end Go.Proofs.Ytnjaocdgjaaffaa.B

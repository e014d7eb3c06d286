/- Own text: merged by pack2.py. -/
import Derived.Test.YtmoekjdlpfjhiaaProg
import Derived.Test.YtmoekjdlpfjhiaaMBa
import Derived.Test.YtmoekjdlpfjhiaaMBb
import Derived.Test.YtmoekjdlpfjhiaaMBc
set_option linter.unusedSimpArgs false
set_option linter.unusedVariables false
namespace Go.Proofs.Ytmoekjdlpfjhiaa.B
open Go.Proofs.Ytmoekjdlpfjhiaa.V.B Go.RowKit
set_option linter.unusedVariables false
structure S34 where
  f0 : Int
  f1 : Int
structure S71 where
  f0 : Int
  f1 : Int
def Es : Nat → Type
  | 0 => S34
  | 1 => S71
  | _ + 2 => Unit
def Efs : Nat → List Ty
  | 0 => [.int .u64, .int .u64]
  | 1 => [.int .u64, .int .u64]
  | _ + 2 => []
def z34 : S34 := ⟨0, 0⟩
def z71 : S71 := ⟨0, 0⟩
def E : Env where
  S := Es
  fs := Efs
  z := fun n => match n with | 0 => z34 | 1 => z71 | _ + 2 => ()
  to := fun n => match n with | 0 => fun (x : S34) => (x.f0, x.f1, ()) | 1 => fun (x : S71) => (x.f0, x.f1, ()) | _ + 2 => fun _ => ()
  of := fun n => match n with | 0 => fun x => (⟨x.1, x.2.1⟩ : S34) | 1 => fun x => (⟨x.1, x.2.1⟩ : S71) | _ + 2 => fun _ => ()
  of_to := fun n => match n with | 0 => fun _ => rfl | 1 => fun _ => rfl | _ + 2 => fun _ => rfl
  to_of := fun n => match n with | 0 => fun _ => rfl | 1 => fun _ => rfl | _ + 2 => fun _ => rfl
theorem zl_ok : ∀ n, E.to n (E.z n) = zl E (E.fs n) := fun n => match n with | 0 => rfl | 1 => rfl | _ + 2 => rfl
def rd34 (xs : List S34) (i : Int) : S34 := xs.getD i.toNat z34
def rd71 (xs : List S71) (i : Int) : S71 := xs.getD i.toNat z71
def rdI (xs : List Int) (i : Int) : Int := xs.getD i.toNat 0
def rdB (xs : List Bool) (i : Int) : Bool := xs.getD i.toNat false
def rdL {α : Type} (xs : List (List α)) (i : Int) : List α := xs.getD i.toNat []
def by256_793 : ByteArray := ⟨#[0, 1, 2, 2, 3, 3, 3, 3, 4, 4, 4, 4, 4, 4, 4, 4, 5, 5, 5, 5, 5, 5, 5, 5, 5, 5, 5, 5, 5, 5, 5, 5, 6, 6, 6, 6, 6, 6, 6, 6, 6, 6, 6, 6, 6, 6, 6, 6, 6, 6, 6, 6, 6, 6, 6, 6, 6, 6, 6, 6, 6, 6, 6, 6, 7, 7, 7, 7, 7, 7, 7, 7, 7, 7, 7, 7, 7, 7, 7, 7, 7, 7, 7, 7, 7, 7, 7, 7, 7, 7, 7, 7, 7, 7, 7, 7, 7, 7, 7, 7, 7, 7, 7, 7, 7, 7, 7, 7, 7, 7, 7, 7, 7, 7, 7, 7, 7, 7, 7, 7, 7, 7, 7, 7, 7, 7, 7, 7, 8, 8, 8, 8, 8, 8, 8, 8, 8, 8, 8, 8, 8, 8, 8, 8, 8, 8, 8, 8, 8, 8, 8, 8, 8, 8, 8, 8, 8, 8, 8, 8, 8, 8, 8, 8, 8, 8, 8, 8, 8, 8, 8, 8, 8, 8, 8, 8, 8, 8, 8, 8, 8, 8, 8, 8, 8, 8, 8, 8, 8, 8, 8, 8, 8, 8, 8, 8, 8, 8, 8, 8, 8, 8, 8, 8, 8, 8, 8, 8, 8, 8, 8, 8, 8, 8, 8, 8, 8, 8, 8, 8, 8, 8, 8, 8, 8, 8, 8, 8, 8, 8, 8, 8, 8, 8, 8, 8, 8, 8, 8, 8, 8, 8, 8, 8, 8, 8, 8, 8, 8, 8, 8, 8, 8, 8, 8, 8]⟩
def tab : Tab := ⟨[(3, .int .i64), (4, .bool), (5, .int .u8), (28, .int .i64), (32, .int .u64), (34, .st 0), (41, .slice (.st 0)), (62, .slice (.st 1)), (71, .st 1), (85, .slice (.int .i64)), (133, .int .u64), (160, .slice (.int .u64)), (183, .int .i64), (196, .ptr (.int .i64))], [(34, 0, 0, 32), (34, 1, 1, 32), (71, 0, 0, 32), (71, 1, 1, 32)], [(41, 16), (62, 16), (85, 8), (160, 8)], [(34, 2), (71, 2)], [9]⟩
theorem tab_ok : tab.chk E Try.prog = true := by kernel_rfl
theorem tie (calls : Nat → Option (Sig E.toTys)) : Tie (XR E) Try.prog (tab.ctx calls) := tie_of zl_ok tab_ok calls
end Go.Proofs.Ytmoekjdlpfjhiaa.B
namespace Go.Proofs.Ytmoekjdlpfjhiaa.B
open Go.Proofs.Ytmoekjdlpfjhiaa.V.B Go.RowKit
set_option linter.unusedVariables false
/-! ### steeple/steeplelaw04.few: function 67 -/
def steeplelaw04_few.l3 : Nat → List Int → Int → List S34 → Option (List S34)
  | 0, _, _, _ => none
  | k + 1, x0, x1, x2 => if x1 < (x0.length : Int) then (if 0 ≤ x1 then (if x1 < (x0.length : Int) then (if x2.length + [(⟨0, rdI x0 x1⟩ : S34)].length ≤ 140737488355328 / 16 then steeplelaw04_few.l3 k x0 (wrap64 (x1 + 1)) (x2 ++ [(⟨0, rdI x0 x1⟩ : S34)]) else none) else none) else none) else some x2
def steeplelaw04_few.f (k : Nat) (a0 : List Int) : Option (List S34) := steeplelaw04_few.l3 k a0 0 []
def steeplelaw04_few.sig (k : Nat) : Sig E.toTys := ⟨[.slice (.int .u64)], [(true, .slice (.st 0))], none, fun x => f k x.1⟩
noncomputable def steeplelaw04_few.body : Code := Try.f67.body.getD .skip
def steeplelaw04_few.calls (k : Nat) : List (Nat × Sig E.toTys) := []
def steeplelaw04_few.cuts : List (Cut E (RT E.toTys [(true, .slice (.st 0))])) := [⟨true, 3, ⟨cat [.one (.val (.slice (.int .u64)))] (cat (ds 2) (cat [.one (.ref 0), .one (.val (.int .i64))] (ds 15))), [.arr (.st 0)], false⟩, fun k x => steeplelaw04_few.l3 k x.1.1 x.1.2.1 x.2.1⟩]
theorem steeplelaw04_few.ok (k : Nat) : Okf (XR E) Try.prog 67 (steeplelaw04_few.sig k) := ⟨fn_ok (C := fun k => tab.ctx fun f => lk f (steeplelaw04_few.calls k)) (fun k => tie _) k (fun j hj => calls_ok (kn)) 400 Try.func67 (body := steeplelaw04_few.body) (res := [.tmp 2]) rfl (by kernel_rfl) steeplelaw04_few.cuts (kc ⟨by kernel_rfl, rfl, fun _ => rfl, fun _ _ => by kernel_rfl⟩ (kn)) (fun x => by kernel_rfl), _, Try.func67, by kernel_rfl, by kernel_rfl⟩
/-! ### math/bits.Len64: function 124 -/
mutual
def math_bits_Len64.j7 : Nat → Int → Int → Option Int
  | 0, _, _ => none
  | k + 1, x0, x1 => if x0 ≥ 256 then math_bits_Len64.j10 k (shr .u64 x0 8) (wrap64 (x1 + 8)) else math_bits_Len64.j10 k x0 x1
def math_bits_Len64.j10 : Nat → Int → Int → Option Int
  | 0, _, _ => none
  | k + 1, x0, x1 => if 0 ≤ IntKind.u8.wrap x0 then (if IntKind.u8.wrap x0 < (ByteArray.size by256_793 : Int) then some (wrap64 (x1 + (wrap64 (bt by256_793 (IntKind.u8.wrap x0))))) else none) else none
end
def math_bits_Len64.f (k : Nat) (a0 : Int) : Option Int := if a0 ≥ 4294967296 then (if shr .u64 a0 32 ≥ 65536 then math_bits_Len64.j7 k (shr .u64 (shr .u64 a0 32) 16) (wrap64 ((32 : Int) + 16)) else math_bits_Len64.j7 k (shr .u64 a0 32) 32) else if a0 ≥ 65536 then math_bits_Len64.j7 k (shr .u64 a0 16) (wrap64 ((0 : Int) + 16)) else math_bits_Len64.j7 k a0 0
def math_bits_Len64.sig (k : Nat) : Sig E.toTys := ⟨[.int .u64], [(false, .int .i64)], none, fun x => f k x.1⟩
noncomputable def math_bits_Len64.body : Code := Try.f124.body.getD .skip
def math_bits_Len64.calls (k : Nat) : List (Nat × Sig E.toTys) := []
def math_bits_Len64.cuts : List (Cut E (RT E.toTys [(false, .int .i64)])) := [⟨false, 7, ⟨cat [.one (.val (.int .u64))] (cat (ds 1) (cat [.one (.val (.int .i64))] (ds 22))), [], false⟩, fun k x => math_bits_Len64.j7 k x.1.1 x.1.2.1⟩,
  ⟨false, 10, ⟨cat [.one (.val (.int .u64))] (cat (ds 1) (cat [.one (.val (.int .i64))] (ds 22))), [], false⟩, fun k x => math_bits_Len64.j10 k x.1.1 x.1.2.1⟩]
theorem math_bits_Len64.ok (k : Nat) : Okf (XR E) Try.prog 124 (math_bits_Len64.sig k) := ⟨fn_ok (C := fun k => tab.ctx fun f => lk f (math_bits_Len64.calls k)) (fun k => tie _) k (fun j hj => calls_ok (kn)) 400 Try.func124 (body := math_bits_Len64.body) (res := [.tmp 2]) rfl (by kernel_rfl) math_bits_Len64.cuts (kc ⟨by kernel_rfl, rfl, fun _ => rfl, fun _ _ => by kernel_rfl⟩ (kc ⟨by kernel_rfl, rfl, fun _ => rfl, fun _ _ => by kernel_rfl⟩ (kn))) (fun x => by kernel_rfl), _, Try.func124, by kernel_rfl, by kernel_rfl⟩
/-! ### steeple/span.lead: function 96 -/
def span_lead.f (k : Nat) (a0 : S34) : Option Int := if a0.f0 = 0 then ((math_bits_Len64.f k a0.f1).bind fun r0 => some (wrap64 (r0 - 1))) else (math_bits_Len64.f k a0.f0).bind fun r1 => some (wrap64 (63 + r1))
def span_lead.sig (k : Nat) : Sig E.toTys := ⟨[.st 0], [(false, .int .i64)], none, fun x => f k x.1⟩
noncomputable def span_lead.body : Code := Try.f96.body.getD .skip
def span_lead.calls (k : Nat) : List (Nat × Sig E.toTys) := [(124, math_bits_Len64.sig k)]
def span_lead.cuts : List (Cut E (RT E.toTys [(false, .int .i64)])) := []
theorem span_lead.ok (k : Nat) : Okf (XR E) Try.prog 96 (span_lead.sig k) := ⟨fn_ok (C := fun k => tab.ctx fun f => lk f (span_lead.calls k)) (fun k => tie _) k (fun j hj => calls_ok (kc (math_bits_Len64.ok j) (kn))) 400 Try.func96 (body := span_lead.body) (res := [.tmp 2]) rfl (by kernel_rfl) span_lead.cuts (kn) (fun x => by kernel_rfl), _, Try.func96, by kernel_rfl, by kernel_rfl⟩
/-! ### steeple/span.within$1: function 132 -/
def span_within_1.f (k : Nat) (a0 : S34) (a1 : Option Int) : Option Bool := (span_lead.f k a0).bind fun r0 => (match a1 with | none => none | some r1 => some (decide (r0 ≥ r1)))
def span_within_1.sig (k : Nat) : Sig E.toTys := ⟨[.st 0, .ptr (.int .i64)], [(false, .bool)], none, fun x => f k x.1 x.2.1⟩
noncomputable def span_within_1.body : Code := Try.f132.body.getD .skip
def span_within_1.calls (k : Nat) : List (Nat × Sig E.toTys) := [(96, span_lead.sig k)]
def span_within_1.cuts : List (Cut E (RT E.toTys [(false, .bool)])) := []
theorem span_within_1.ok (k : Nat) : Okf (XR E) Try.prog 132 (span_within_1.sig k) := ⟨fn_ok (C := fun k => tab.ctx fun f => lk f (span_within_1.calls k)) (fun k => tie _) k (fun j hj => calls_ok (kc (span_lead.ok j) (kn))) 400 Try.func132 (body := span_within_1.body) (res := [.tmp 3]) rfl (by kernel_rfl) span_within_1.cuts (kn) (fun x => by kernel_rfl), _, Try.func132, by kernel_rfl, by kernel_rfl⟩
/-! ### slices.IndexFunc: function 125 -/
def slices_IndexFunc125_c132.l2 : Nat → List S34 → Int → Int → Int → Option Int
  | 0, _, _, _, _ => none
  | k + 1, x0, x1, x2, x3 => if x3 < x2 then (if 0 ≤ x3 then (if x3 < (x0.length : Int) then ((span_within_1.f k (rd34 x0 x3) (some x1)).bind fun r0 => if r0 = true then some x3 else slices_IndexFunc125_c132.l2 k x0 x1 x2 (wrap64 (x3 + 1))) else none) else none) else some (-1)
def slices_IndexFunc125_c132.f (k : Nat) (a0 : List S34) (a1 : Int) : Option Int := slices_IndexFunc125_c132.l2 k a0 a1 (a0.length : Int) 0
def slices_IndexFunc125_c132.sig (k : Nat) : Sig E.toTys := ⟨[.slice (.st 0), .ext 132 (.int .i64)], [(false, .int .i64)], none, fun x => f k x.1 x.2.1⟩
noncomputable def slices_IndexFunc125_c132.body : Code := Try.f125.body.getD .skip
def slices_IndexFunc125_c132.calls (k : Nat) : List (Nat × Sig E.toTys) := [(132, span_within_1.sig k)]
def slices_IndexFunc125_c132.cuts : List (Cut E (RT E.toTys [(false, .int .i64)])) := [⟨true, 2, ⟨cat [.one (.val (.slice (.st 0))), .one (.val (.ext 132 (.int .i64)))] (cat (ds 5) (cat [.one (.val (.int .i64)), .one (.val (.int .i64))] (ds 10))), [], false⟩, fun k x => slices_IndexFunc125_c132.l2 k x.1.1 x.1.2.1 x.1.2.2.1 x.1.2.2.2.1⟩]
theorem slices_IndexFunc125_c132.ok (k : Nat) : Okf (XR E) Try.prog 125 (slices_IndexFunc125_c132.sig k) := ⟨fn_ok (C := fun k => tab.ctx fun f => lk f (slices_IndexFunc125_c132.calls k)) (fun k => tie _) k (fun j hj => calls_ok (kc (span_within_1.ok j) (kn))) 400 Try.func125 (body := slices_IndexFunc125_c132.body) (res := [.tmp 4]) rfl (by kernel_rfl) slices_IndexFunc125_c132.cuts (kc ⟨by kernel_rfl, rfl, fun _ => rfl, fun _ _ => by kernel_rfl⟩ (kn)) (fun x => by kernel_rfl), _, Try.func125, by kernel_rfl, by kernel_rfl⟩
/-! ### slices.ContainsFunc: function 98 -/
def slices_ContainsFunc98_c132.f (k : Nat) (a0 : List S34) (a1 : Int) : Option Bool := (slices_IndexFunc125_c132.f k a0 a1).bind fun r0 => some (decide (r0 ≥ 0))
def slices_ContainsFunc98_c132.sig (k : Nat) : Sig E.toTys := ⟨[.slice (.st 0), .ext 132 (.int .i64)], [(false, .bool)], none, fun x => f k x.1 x.2.1⟩
noncomputable def slices_ContainsFunc98_c132.body : Code := Try.f98.body.getD .skip
def slices_ContainsFunc98_c132.calls (k : Nat) : List (Nat × Sig E.toTys) := [(125, slices_IndexFunc125_c132.sig k)]
def slices_ContainsFunc98_c132.cuts : List (Cut E (RT E.toTys [(false, .bool)])) := []
theorem slices_ContainsFunc98_c132.ok (k : Nat) : Okf (XR E) Try.prog 98 (slices_ContainsFunc98_c132.sig k) := ⟨fn_ok (C := fun k => tab.ctx fun f => lk f (slices_ContainsFunc98_c132.calls k)) (fun k => tie _) k (fun j hj => calls_ok (kc (slices_IndexFunc125_c132.ok j) (kn))) 400 Try.func98 (body := slices_ContainsFunc98_c132.body) (res := [.tmp 4]) rfl (by kernel_rfl) slices_ContainsFunc98_c132.cuts (kn) (fun x => by kernel_rfl), _, Try.func98, by kernel_rfl, by kernel_rfl⟩
/-! ### steeple/span.within: function 108 -/
def span_within.f (k : Nat) (a0 : List S34) (a1 : Int) : Option Bool := (slices_ContainsFunc98_c132.f k a0 a1).bind fun r0 => some (!r0)
def span_within.sig (k : Nat) : Sig E.toTys := ⟨[.slice (.st 0), .int .i64], [(false, .bool)], none, fun x => f k x.1 x.2.1⟩
noncomputable def span_within.body : Code := Try.f108.body.getD .skip
def span_within.calls (k : Nat) : List (Nat × Sig E.toTys) := [(98, slices_ContainsFunc98_c132.sig k)]
def span_within.cuts : List (Cut E (RT E.toTys [(false, .bool)])) := []
theorem span_within.ok (k : Nat) : Okf (XR E) Try.prog 108 (span_within.sig k) := ⟨fn_ok (C := fun k => tab.ctx fun f => lk f (span_within.calls k)) (fun k => tie _) k (fun j hj => calls_ok (kc (slices_ContainsFunc98_c132.ok j) (kn))) 400 Try.func108 (body := span_within.body) (res := [.tmp 4]) rfl (by kernel_rfl) span_within.cuts (kn) (fun x => by kernel_rfl), _, Try.func108, by kernel_rfl, by kernel_rfl⟩
/-! ### steeple/tower.Bit: function 110 -/
mutual
def tower_Bit.j3 : Nat → Int → Int → Int → Option S34
  | 0, _, _, _ => none
  | k + 1, x0, x1, x2 => if x0 ≥ 64 then (if x0 < 128 then (if 0 ≤ wrap64 (x0 - 64) then some (⟨shl .u64 1 (wrap64 (x0 - 64)), 0⟩ : S34) else none) else tower_Bit.j5 k x1 x2) else tower_Bit.j5 k x1 x2
def tower_Bit.j5 : Nat → Int → Int → Option S34
  | 0, _, _ => none
  | k + 1, _, _ => some (⟨0, 0⟩ : S34)
end
def tower_Bit.f (k : Nat) (a0 : Int) : Option S34 := if a0 ≥ 0 then (if a0 < 64 then (if 0 ≤ a0 then some (⟨0, shl .u64 1 a0⟩ : S34) else none) else tower_Bit.j3 k a0 0 0) else tower_Bit.j3 k a0 0 0
def tower_Bit.sig (k : Nat) : Sig E.toTys := ⟨[.int .i64], [(false, .st 0)], none, fun x => f k x.1⟩
noncomputable def tower_Bit.body : Code := Try.f110.body.getD .skip
def tower_Bit.calls (k : Nat) : List (Nat × Sig E.toTys) := []
def tower_Bit.cuts : List (Cut E (RT E.toTys [(false, .st 0)])) := [⟨false, 3, ⟨cat [.one (.val (.int .i64))] (cat (ds 1) (cat [.one (.ptr 0 0)] (ds 22))), [.var [.val (.int .u64), .val (.int .u64)]], false⟩, fun k x => tower_Bit.j3 k x.1.1 x.2.1.1 x.2.1.2.1⟩,
  ⟨false, 5, ⟨cat (ds 2) (cat [.one (.ptr 0 0)] (ds 22)), [.var [.val (.int .u64), .val (.int .u64)]], false⟩, fun k x => tower_Bit.j5 k x.2.1.1 x.2.1.2.1⟩]
theorem tower_Bit.ok (k : Nat) : Okf (XR E) Try.prog 110 (tower_Bit.sig k) := ⟨fn_ok (C := fun k => tab.ctx fun f => lk f (tower_Bit.calls k)) (fun k => tie _) k (fun j hj => calls_ok (kn)) 400 Try.func110 (body := tower_Bit.body) (res := [.cell 2 34]) rfl (by kernel_rfl) tower_Bit.cuts (kc ⟨by kernel_rfl, rfl, fun _ => rfl, fun _ _ => by kernel_rfl⟩ (kc ⟨by kernel_rfl, rfl, fun _ => rfl, fun _ _ => by kernel_rfl⟩ (kn))) (fun x => by kernel_rfl), _, Try.func110, by kernel_rfl, by kernel_rfl⟩
/-! ### steeple/span.has: function 109 -/
def span_has.f (k : Nat) (a0 : S34) (a1 : Int) : Option Bool := (tower_Bit.f k a1).bind fun r0 => some (!decide (bits .or .u64 (bits .and .u64 a0.f1 r0.f1) (bits .and .u64 a0.f0 r0.f0) = 0))
def span_has.sig (k : Nat) : Sig E.toTys := ⟨[.st 0, .int .i64], [(false, .bool)], none, fun x => f k x.1 x.2.1⟩
noncomputable def span_has.body : Code := Try.f109.body.getD .skip
def span_has.calls (k : Nat) : List (Nat × Sig E.toTys) := [(110, tower_Bit.sig k)]
def span_has.cuts : List (Cut E (RT E.toTys [(false, .bool)])) := []
theorem span_has.ok (k : Nat) : Okf (XR E) Try.prog 109 (span_has.sig k) := ⟨fn_ok (C := fun k => tab.ctx fun f => lk f (span_has.calls k)) (fun k => tie _) k (fun j hj => calls_ok (kc (tower_Bit.ok j) (kn))) 400 Try.func109 (body := span_has.body) (res := [.tmp 4]) rfl (by kernel_rfl) span_has.cuts (kn) (fun x => by kernel_rfl), _, Try.func109, by kernel_rfl, by kernel_rfl⟩
/-! ### steeple/tower.Add: function 49 -/
def tower_Add.f (k : Nat) (a0 : S34) (a1 : S34) : Option S34 := some (⟨bits .xor .u64 a0.f0 a1.f0, bits .xor .u64 a0.f1 a1.f1⟩ : S34)
def tower_Add.sig (k : Nat) : Sig E.toTys := ⟨[.st 0, .st 0], [(false, .st 0)], none, fun x => f k x.1 x.2.1⟩
noncomputable def tower_Add.body : Code := Try.f49.body.getD .skip
def tower_Add.calls (k : Nat) : List (Nat × Sig E.toTys) := []
def tower_Add.cuts : List (Cut E (RT E.toTys [(false, .st 0)])) := []
theorem tower_Add.ok (k : Nat) : Okf (XR E) Try.prog 49 (tower_Add.sig k) := ⟨fn_ok (C := fun k => tab.ctx fun f => lk f (tower_Add.calls k)) (fun k => tie _) k (fun j hj => calls_ok (kn)) 400 Try.func49 (body := tower_Add.body) (res := [.cell 4 34]) rfl (by kernel_rfl) tower_Add.cuts (kn) (fun x => by kernel_rfl), _, Try.func49, by kernel_rfl, by kernel_rfl⟩
/-! ### steeple/span.Turn: function 66 -/
mutual
def span_Turn.l7 : Nat → Int → List S34 → Int → Int → List S34 → Option ((List S34) × Int)
  | 0, _, _, _, _, _ => none
  | k + 1, x0, x1, x2, x3, x4 => if x3 < x2 then (if 0 ≤ x3 then (if x3 < (x1.length : Int) then span_Turn.l10 k x0 x3 x1 x2 x3 x0 0 x4 (rd34 x1 x3).f0 (rd34 x1 x3).f1 else none) else none) else some (x4, 0)
def span_Turn.l10 : Nat → Int → Int → List S34 → Int → Int → Int → Int → List S34 → Int → Int → Option ((List S34) × Int)
  | 0, _, _, _, _, _, _, _, _, _, _ => none
  | k + 1, x0, x1, x2, x3, x4, x5, x6, x7, x8, x9 => if x6 < x5 then ((span_has.f k (⟨x8, x9⟩ : S34) x6).bind fun r1 => if r1 = true then (if 0 ≤ x6 then (if x6 < (x7.length : Int) then ((tower_Bit.f k x1).bind fun r2 => (tower_Add.f k (rd34 x7 x6) r2).bind fun r3 => if 0 ≤ x6 then (if x6 < (x7.length : Int) then span_Turn.l10 k x0 x1 x2 x3 x4 x5 (wrap64 (x6 + 1)) (x7.set (Int.toNat x6) r3) x8 x9 else none) else none) else none) else none) else span_Turn.l10 k x0 x1 x2 x3 x4 x5 (wrap64 (x6 + 1)) x7 x8 x9) else span_Turn.l7 k x0 x2 x3 (wrap64 (x4 + 1)) x7
end
def span_Turn.f (k : Nat) (a0 : List S34) (a1 : Int) : Option ((List S34) × Int) := if (a0.length : Int) > 128 then some ([], 1) else if a1 < 0 then some ([], 1) else if a1 > 128 then some ([], 1) else (span_within.f k a0 a1).bind fun r0 => if (!r0) = true then some ([], 6) else if 0 ≤ a1 then (if a1 ≤ 140737488355328 / ((16 : Nat) : Int) then span_Turn.l7 k a1 a0 (a0.length : Int) 0 (List.replicate (Int.toNat a1) z34) else none) else none
def span_Turn.sig (k : Nat) : Sig E.toTys := ⟨[.slice (.st 0), .int .i64], [(true, .slice (.st 0)), (false, .int .i64)], none, fun x => f k x.1 x.2.1⟩
noncomputable def span_Turn.body : Code := Try.f66.body.getD .skip
def span_Turn.calls (k : Nat) : List (Nat × Sig E.toTys) := [(108, span_within.sig k), (109, span_has.sig k), (110, tower_Bit.sig k), (49, tower_Add.sig k)]
def span_Turn.cuts : List (Cut E (RT E.toTys [(true, .slice (.st 0)), (false, .int .i64)])) := [⟨true, 7, ⟨cat (ds 1) (cat [.one (.val (.int .i64))] (cat (ds 4) (cat [.one (.ref 0)] (cat (ds 22) (cat [.one (.val (.slice (.st 0))), .one (.val (.int .i64)), .one (.val (.int .i64))] (ds 24)))))), [.arr (.st 0)], false⟩, fun k x => span_Turn.l7 k x.1.1 x.1.2.1 x.1.2.2.1 x.1.2.2.2.1 x.2.1⟩,
  ⟨true, 10, ⟨cat (ds 1) (cat [.one (.val (.int .i64))] (cat (ds 4) (cat [.one (.ref 0), .one (.val (.int .i64)), .one (.ptr 1 0)] (cat (ds 20) (cat [.one (.val (.slice (.st 0))), .one (.val (.int .i64)), .one (.val (.int .i64))] (cat (ds 4) (cat [.one (.val (.int .i64)), .one (.val (.int .i64))] (ds 18)))))))), [.arr (.st 0), .var [.val (.int .u64), .val (.int .u64)]], false⟩, fun k x => span_Turn.l10 k x.1.1 x.1.2.1 x.1.2.2.1 x.1.2.2.2.1 x.1.2.2.2.2.1 x.1.2.2.2.2.2.1 x.1.2.2.2.2.2.2.1 x.2.1 x.2.2.1.1 x.2.2.1.2.1⟩]
theorem span_Turn.ok (k : Nat) : Okf (XR E) Try.prog 66 (span_Turn.sig k) := ⟨fn_ok (C := fun k => tab.ctx fun f => lk f (span_Turn.calls k)) (fun k => tie _) k (fun j hj => calls_ok (kc (span_within.ok j) (kc (span_has.ok j) (kc (tower_Bit.ok j) (kc (tower_Add.ok j) (kn)))))) 400 Try.func66 (body := span_Turn.body) (res := [.tmp 4, .tmp 5]) rfl (by kernel_rfl) span_Turn.cuts (kc ⟨by kernel_rfl, rfl, fun _ => rfl, fun _ _ => by kernel_rfl⟩ (kc ⟨by kernel_rfl, rfl, fun _ => rfl, fun _ _ => by kernel_rfl⟩ (kn))) (fun x => by kernel_rfl), _, Try.func66, by kernel_rfl, by kernel_rfl⟩
/-! ### steeple/span.less: function 71 -/
def span_less.l2 : Nat → List S34 → Int → Int → Int → Int → Int → Int → Option S34
  | 0, _, _, _, _, _, _, _ => none
  | k + 1, x0, x1, x2, x3, x4, x5, x6 => if x2 < x1 then (if 0 ≤ x2 then (if x2 < (x0.length : Int) then ((span_lead.f k (rd34 x0 x2)).bind fun r0 => (span_has.f k (⟨x3, x4⟩ : S34) r0).bind fun r1 => if r1 = true then ((tower_Add.f k (⟨x3, x4⟩ : S34) (rd34 x0 x2)).bind fun r2 => span_less.l2 k x0 x1 (wrap64 (x2 + 1)) r2.f0 r2.f1 x5 x6) else span_less.l2 k x0 x1 (wrap64 (x2 + 1)) x3 x4 x5 x6) else none) else none) else some (⟨x3, x4⟩ : S34)
def span_less.f (k : Nat) (a0 : List S34) (a1 : S34) : Option S34 := span_less.l2 k a0 (a0.length : Int) 0 a1.f0 a1.f1 0 0
def span_less.sig (k : Nat) : Sig E.toTys := ⟨[.slice (.st 0), .st 0], [(false, .st 0)], none, fun x => f k x.1 x.2.1⟩
noncomputable def span_less.body : Code := Try.f71.body.getD .skip
def span_less.calls (k : Nat) : List (Nat × Sig E.toTys) := [(96, span_lead.sig k), (109, span_has.sig k), (49, tower_Add.sig k)]
def span_less.cuts : List (Cut E (RT E.toTys [(false, .st 0)])) := [⟨true, 2, ⟨cat (ds 3) (cat [.one (.ptr 0 0), .one (.ptr 1 0)] (cat (ds 2) (cat [.one (.val (.slice (.st 0))), .one (.val (.int .i64)), .one (.val (.int .i64))] (ds 12)))), [.var [.val (.int .u64), .val (.int .u64)], .var [.val (.int .u64), .val (.int .u64)]], false⟩, fun k x => span_less.l2 k x.1.1 x.1.2.1 x.1.2.2.1 x.2.1.1 x.2.1.2.1 x.2.2.1.1 x.2.2.1.2.1⟩]
theorem span_less.ok (k : Nat) : Okf (XR E) Try.prog 71 (span_less.sig k) := ⟨fn_ok (C := fun k => tab.ctx fun f => lk f (span_less.calls k)) (fun k => tie _) k (fun j hj => calls_ok (kc (span_lead.ok j) (kc (span_has.ok j) (kc (tower_Add.ok j) (kn))))) 400 Try.func71 (body := span_less.body) (res := [.cell 4 34]) rfl (by kernel_rfl) span_less.cuts (kc ⟨by kernel_rfl, rfl, fun _ => rfl, fun _ _ => by kernel_rfl⟩ (kn)) (fun x => by kernel_rfl), _, Try.func71, by kernel_rfl, by kernel_rfl⟩
/-! ### steeple/span.put$1: function 112 -/
def span_put_1.f (k : Nat) (a0 : S34) (a1 : S34) : Option Int := (span_lead.f k a1).bind fun r0 => (span_lead.f k a0).bind fun r1 => some (wrap64 (r0 - r1))
def span_put_1.sig (k : Nat) : Sig E.toTys := ⟨[.st 0, .st 0], [(false, .int .i64)], none, fun x => f k x.1 x.2.1⟩
noncomputable def span_put_1.body : Code := Try.f112.body.getD .skip
def span_put_1.calls (k : Nat) : List (Nat × Sig E.toTys) := [(96, span_lead.sig k)]
def span_put_1.cuts : List (Cut E (RT E.toTys [(false, .int .i64)])) := []
theorem span_put_1.ok (k : Nat) : Okf (XR E) Try.prog 112 (span_put_1.sig k) := ⟨fn_ok (C := fun k => tab.ctx fun f => lk f (span_put_1.calls k)) (fun k => tie _) k (fun j hj => calls_ok (kc (span_lead.ok j) (kn))) 400 Try.func112 (body := span_put_1.body) (res := [.tmp 4]) rfl (by kernel_rfl) span_put_1.cuts (kn) (fun x => by kernel_rfl), _, Try.func112, by kernel_rfl, by kernel_rfl⟩
/-! ### math/bits.Len: function 134 -/
def math_bits_Len.f (k : Nat) (a0 : Int) : Option Int := (math_bits_Len64.f k a0).bind fun r0 => some r0
def math_bits_Len.sig (k : Nat) : Sig E.toTys := ⟨[.int .u64], [(false, .int .i64)], none, fun x => f k x.1⟩
noncomputable def math_bits_Len.body : Code := Try.f134.body.getD .skip
def math_bits_Len.calls (k : Nat) : List (Nat × Sig E.toTys) := [(124, math_bits_Len64.sig k)]
def math_bits_Len.cuts : List (Cut E (RT E.toTys [(false, .int .i64)])) := []
theorem math_bits_Len.ok (k : Nat) : Okf (XR E) Try.prog 134 (math_bits_Len.sig k) := ⟨fn_ok (C := fun k => tab.ctx fun f => lk f (math_bits_Len.calls k)) (fun k => tie _) k (fun j hj => calls_ok (kc (math_bits_Len64.ok j) (kn))) 400 Try.func134 (body := math_bits_Len.body) (res := [.tmp 2]) rfl (by kernel_rfl) math_bits_Len.cuts (kn) (fun x => by kernel_rfl), _, Try.func134, by kernel_rfl, by kernel_rfl⟩
/-! ### slices.insertionSortCmpFunc: function 141 -/
mutual
def slices_insertionSortCmpFunc141_c112.l1 : Nat → Int → Int → Unit → Int → List S34 → Option (List S34)
  | 0, _, _, _, _, _ => none
  | k + 1, x0, x1, x2, x3, x4 => if x3 < x1 then slices_insertionSortCmpFunc141_c112.l4 k x0 x1 x2 x3 x3 x4 else some x4
def slices_insertionSortCmpFunc141_c112.l4 : Nat → Int → Int → Unit → Int → Int → List S34 → Option (List S34)
  | 0, _, _, _, _, _, _ => none
  | k + 1, x0, x1, x2, x3, x4, x5 => if x4 > x0 then (if 0 ≤ x4 then (if x4 < (x5.length : Int) then (if 0 ≤ wrap64 (x4 - 1) then (if wrap64 (x4 - 1) < (x5.length : Int) then ((span_put_1.f k (rd34 x5 x4) (rd34 x5 (wrap64 (x4 - 1)))).bind fun r0 => if r0 < 0 then (if 0 ≤ wrap64 (x4 - 1) then (if wrap64 (x4 - 1) < (x5.length : Int) then (if 0 ≤ x4 then (if x4 < (x5.length : Int) then (if 0 ≤ x4 then (if x4 < (x5.length : Int) then (if 0 ≤ wrap64 (x4 - 1) then (if wrap64 (x4 - 1) < ((x5.set (Int.toNat x4) (rd34 x5 (wrap64 (x4 - 1)))).length : Int) then slices_insertionSortCmpFunc141_c112.l4 k x0 x1 x2 x3 (wrap64 (x4 - 1)) ((x5.set (Int.toNat x4) (rd34 x5 (wrap64 (x4 - 1)))).set (Int.toNat (wrap64 (x4 - 1))) (rd34 x5 x4)) else none) else none) else none) else none) else none) else none) else none) else none) else slices_insertionSortCmpFunc141_c112.l1 k x0 x1 x2 (wrap64 (x3 + 1)) x5) else none) else none) else none) else none) else slices_insertionSortCmpFunc141_c112.l1 k x0 x1 x2 (wrap64 (x3 + 1)) x5
end
def slices_insertionSortCmpFunc141_c112.f (k : Nat) (a0 : List S34) (a1 : Int) (a2 : Int) (a3 : Unit) : Option (List S34) := slices_insertionSortCmpFunc141_c112.l1 k a1 a2 a3 (wrap64 (a1 + 1)) a0
def slices_insertionSortCmpFunc141_c112.sig (k : Nat) : Sig E.toTys := ⟨[.slice (.st 0), .int .i64, .int .i64, .fnv 112], [(true, .slice (.st 0))], some 0, fun x => f k x.1 x.2.1 x.2.2.1 x.2.2.2.1⟩
noncomputable def slices_insertionSortCmpFunc141_c112.body : Code := Try.f141.body.getD .skip
def slices_insertionSortCmpFunc141_c112.calls (k : Nat) : List (Nat × Sig E.toTys) := [(112, span_put_1.sig k)]
def slices_insertionSortCmpFunc141_c112.cuts : List (Cut E (RT E.toTys [(true, .slice (.st 0))])) := [⟨true, 1, ⟨cat [.one (.ref 0), .one (.val (.int .i64)), .one (.val (.int .i64)), .one (.val (.fnv 112))] (cat (ds 4) (cat [.one (.val (.int .i64))] (ds 44))), [.arr (.st 0)], true⟩, fun k x => slices_insertionSortCmpFunc141_c112.l1 k x.1.1 x.1.2.1 x.1.2.2.1 x.1.2.2.2.1 x.2.1⟩,
  ⟨true, 4, ⟨cat [.one (.ref 0), .one (.val (.int .i64)), .one (.val (.int .i64)), .one (.val (.fnv 112))] (cat (ds 4) (cat [.one (.val (.int .i64)), .one (.val (.int .i64))] (ds 43))), [.arr (.st 0)], true⟩, fun k x => slices_insertionSortCmpFunc141_c112.l4 k x.1.1 x.1.2.1 x.1.2.2.1 x.1.2.2.2.1 x.1.2.2.2.2.1 x.2.1⟩]
theorem slices_insertionSortCmpFunc141_c112.ok (k : Nat) : Okf (XR E) Try.prog 141 (slices_insertionSortCmpFunc141_c112.sig k) := ⟨fn_okIO (C := fun k => tab.ctx fun f => lk f (slices_insertionSortCmpFunc141_c112.calls k)) (fun k => tie _) k (fun j hj => calls_ok (kc (span_put_1.ok j) (kn))) 400 0 Try.func141 (body := slices_insertionSortCmpFunc141_c112.body) (res := []) rfl (by kernel_rfl) slices_insertionSortCmpFunc141_c112.cuts (kc ⟨by kernel_rfl, rfl, fun _ => rfl, fun _ _ => by kernel_rfl⟩ (kc ⟨by kernel_rfl, rfl, fun _ => rfl, fun _ _ => by kernel_rfl⟩ (kn))) (fun x => by kernel_rfl), _, Try.func141, by kernel_rfl, by kernel_rfl⟩
/-! ### slices.order2CmpFunc: function 156 -/
def slices_order2CmpFunc156_c112.f (k : Nat) (a0 : List S34) (a1 : Int) (a2 : Int) (a3 : Option Int) (a4 : Unit) : Option ((Option Int) × Int × Int) := (match a3 with | none => none | some r0 => if 0 ≤ a2 then (if a2 < (a0.length : Int) then (if 0 ≤ a1 then (if a1 < (a0.length : Int) then ((span_put_1.f k (rd34 a0 a2) (rd34 a0 a1)).bind fun r1 => if r1 < 0 then some (some (wrap64 (r0 + 1)), a2, a1) else some (some r0, a1, a2)) else none) else none) else none) else none)
def slices_order2CmpFunc156_c112.sig (k : Nat) : Sig E.toTys := ⟨[.slice (.st 0), .int .i64, .int .i64, .ptr (.int .i64), .fnv 112], [(true, .ptr (.int .i64)), (false, .int .i64), (false, .int .i64)], some 3, fun x => f k x.1 x.2.1 x.2.2.1 x.2.2.2.1 x.2.2.2.2.1⟩
noncomputable def slices_order2CmpFunc156_c112.body : Code := Try.f156.body.getD .skip
def slices_order2CmpFunc156_c112.calls (k : Nat) : List (Nat × Sig E.toTys) := [(112, span_put_1.sig k)]
def slices_order2CmpFunc156_c112.cuts : List (Cut E (RT E.toTys [(true, .ptr (.int .i64)), (false, .int .i64), (false, .int .i64)])) := []
theorem slices_order2CmpFunc156_c112.ok (k : Nat) : Okf (XR E) Try.prog 156 (slices_order2CmpFunc156_c112.sig k) := ⟨fn_okIO (C := fun k => tab.ctx fun f => lk f (slices_order2CmpFunc156_c112.calls k)) (fun k => tie _) k (fun j hj => calls_ok (kc (span_put_1.ok j) (kn))) 400 3 Try.func156 (body := slices_order2CmpFunc156_c112.body) (res := [.tmp 10, .tmp 11]) rfl (by kernel_rfl) slices_order2CmpFunc156_c112.cuts (kn) (fun x => by rcases x with ⟨x0, x1, x2, _ | y, z⟩ <;> kernel_rfl), _, Try.func156, by kernel_rfl, by kernel_rfl⟩
/-! ### slices.medianCmpFunc: function 155 -/
def slices_medianCmpFunc155_c112.f (k : Nat) (a0 : List S34) (a1 : Int) (a2 : Int) (a3 : Int) (a4 : Option Int) (a5 : Unit) : Option ((Option Int) × Int) := (match a4 with | none => none | some r0 => (slices_order2CmpFunc156_c112.f k a0 a1 a2 (some r0) a5).bind fun r1 => (match r1.1 with | none => none | some r2 => (slices_order2CmpFunc156_c112.f k a0 r1.2.2 a3 (some r2) a5).bind fun r3 => (match r3.1 with | none => none | some r4 => (slices_order2CmpFunc156_c112.f k a0 r1.2.1 r3.2.1 (some r4) a5).bind fun r5 => (match r5.1 with | none => none | some r6 => some (some r6, r5.2.2)))))
def slices_medianCmpFunc155_c112.sig (k : Nat) : Sig E.toTys := ⟨[.slice (.st 0), .int .i64, .int .i64, .int .i64, .ptr (.int .i64), .fnv 112], [(true, .ptr (.int .i64)), (false, .int .i64)], some 4, fun x => f k x.1 x.2.1 x.2.2.1 x.2.2.2.1 x.2.2.2.2.1 x.2.2.2.2.2.1⟩
noncomputable def slices_medianCmpFunc155_c112.body : Code := Try.f155.body.getD .skip
def slices_medianCmpFunc155_c112.calls (k : Nat) : List (Nat × Sig E.toTys) := [(156, slices_order2CmpFunc156_c112.sig k)]
def slices_medianCmpFunc155_c112.cuts : List (Cut E (RT E.toTys [(true, .ptr (.int .i64)), (false, .int .i64)])) := []
theorem slices_medianCmpFunc155_c112.ok (k : Nat) : Okf (XR E) Try.prog 155 (slices_medianCmpFunc155_c112.sig k) := ⟨fn_okIO (C := fun k => tab.ctx fun f => lk f (slices_medianCmpFunc155_c112.calls k)) (fun k => tie _) k (fun j hj => calls_ok (kc (slices_order2CmpFunc156_c112.ok j) (kn))) 400 4 Try.func155 (body := slices_medianCmpFunc155_c112.body) (res := [.tmp 12]) rfl (by kernel_rfl) slices_medianCmpFunc155_c112.cuts (kn) (fun x => by rcases x with ⟨x0, x1, x2, x3, _ | y, z⟩ <;> kernel_rfl), _, Try.func155, by kernel_rfl, by kernel_rfl⟩
/-! ### slices.medianAdjacentCmpFunc: function 154 -/
def slices_medianAdjacentCmpFunc154_c112.f (k : Nat) (a0 : List S34) (a1 : Int) (a2 : Option Int) (a3 : Unit) : Option ((Option Int) × Int) := (match a2 with | none => none | some r0 => (slices_medianCmpFunc155_c112.f k a0 (wrap64 (a1 - 1)) a1 (wrap64 (a1 + 1)) (some r0) a3).bind fun r1 => (match r1.1 with | none => none | some r2 => some (some r2, r1.2)))
def slices_medianAdjacentCmpFunc154_c112.sig (k : Nat) : Sig E.toTys := ⟨[.slice (.st 0), .int .i64, .ptr (.int .i64), .fnv 112], [(true, .ptr (.int .i64)), (false, .int .i64)], some 2, fun x => f k x.1 x.2.1 x.2.2.1 x.2.2.2.1⟩
noncomputable def slices_medianAdjacentCmpFunc154_c112.body : Code := Try.f154.body.getD .skip
def slices_medianAdjacentCmpFunc154_c112.calls (k : Nat) : List (Nat × Sig E.toTys) := [(155, slices_medianCmpFunc155_c112.sig k)]
def slices_medianAdjacentCmpFunc154_c112.cuts : List (Cut E (RT E.toTys [(true, .ptr (.int .i64)), (false, .int .i64)])) := []
theorem slices_medianAdjacentCmpFunc154_c112.ok (k : Nat) : Okf (XR E) Try.prog 154 (slices_medianAdjacentCmpFunc154_c112.sig k) := ⟨fn_okIO (C := fun k => tab.ctx fun f => lk f (slices_medianAdjacentCmpFunc154_c112.calls k)) (fun k => tie _) k (fun j hj => calls_ok (kc (slices_medianCmpFunc155_c112.ok j) (kn))) 400 2 Try.func154 (body := slices_medianAdjacentCmpFunc154_c112.body) (res := [.tmp 8]) rfl (by kernel_rfl) slices_medianAdjacentCmpFunc154_c112.cuts (kn) (fun x => by rcases x with ⟨x0, x1, _ | y, z⟩ <;> kernel_rfl), _, Try.func154, by kernel_rfl, by kernel_rfl⟩
/-! ### slices.choosePivotCmpFunc: function 144 -/
def slices_choosePivotCmpFunc144_c112.j12 : Nat → Int → Int → Option (Int × Int)
  | 0, _, _ => none
  | k + 1, x0, x1 => if x1 = 0 then some (x0, 1) else if x1 = 12 then some (x0, 2) else some (x0, 0)
def slices_choosePivotCmpFunc144_c112.f (k : Nat) (a0 : List S34) (a1 : Int) (a2 : Int) (a3 : Unit) : Option (Int × Int) := if wrap64 (a2 - a1) ≥ 8 then (if wrap64 (a2 - a1) ≥ 50 then ((slices_medianAdjacentCmpFunc154_c112.f k a0 (wrap64 (a1 + (wrap64 ((wrap64 (Int.tdiv (wrap64 (a2 - a1)) 4)) * 1)))) (some 0) a3).bind fun r0 => (match r0.1 with | none => none | some r1 => (slices_medianAdjacentCmpFunc154_c112.f k a0 (wrap64 (a1 + (wrap64 ((wrap64 (Int.tdiv (wrap64 (a2 - a1)) 4)) * 2)))) (some r1) a3).bind fun r2 => (match r2.1 with | none => none | some r3 => (slices_medianAdjacentCmpFunc154_c112.f k a0 (wrap64 (a1 + (wrap64 ((wrap64 (Int.tdiv (wrap64 (a2 - a1)) 4)) * 3)))) (some r3) a3).bind fun r4 => (match r4.1 with | none => none | some r5 => (slices_medianCmpFunc155_c112.f k a0 r0.2 r2.2 r4.2 (some r5) a3).bind fun r6 => (match r6.1 with | none => none | some r7 => slices_choosePivotCmpFunc144_c112.j12 k r6.2 r7))))) else (slices_medianCmpFunc155_c112.f k a0 (wrap64 (a1 + (wrap64 ((wrap64 (Int.tdiv (wrap64 (a2 - a1)) 4)) * 1)))) (wrap64 (a1 + (wrap64 ((wrap64 (Int.tdiv (wrap64 (a2 - a1)) 4)) * 2)))) (wrap64 (a1 + (wrap64 ((wrap64 (Int.tdiv (wrap64 (a2 - a1)) 4)) * 3)))) (some 0) a3).bind fun r8 => (match r8.1 with | none => none | some r9 => slices_choosePivotCmpFunc144_c112.j12 k r8.2 r9)) else slices_choosePivotCmpFunc144_c112.j12 k (wrap64 (a1 + (wrap64 ((wrap64 (Int.tdiv (wrap64 (a2 - a1)) 4)) * 2)))) 0
def slices_choosePivotCmpFunc144_c112.sig (k : Nat) : Sig E.toTys := ⟨[.slice (.st 0), .int .i64, .int .i64, .fnv 112], [(false, .int .i64), (false, .int .i64)], none, fun x => f k x.1 x.2.1 x.2.2.1 x.2.2.2.1⟩
noncomputable def slices_choosePivotCmpFunc144_c112.body : Code := Try.f144.body.getD .skip
def slices_choosePivotCmpFunc144_c112.calls (k : Nat) : List (Nat × Sig E.toTys) := [(154, slices_medianAdjacentCmpFunc154_c112.sig k), (155, slices_medianCmpFunc155_c112.sig k)]
def slices_choosePivotCmpFunc144_c112.cuts : List (Cut E (RT E.toTys [(false, .int .i64), (false, .int .i64)])) := [⟨false, 12, ⟨cat (ds 11) (cat [.one (.ptr 0 0)] (cat (ds 1) (cat [.one (.val (.int .i64))] (ds 49)))), [.var [.val (.int .i64)]], false⟩, fun k x => slices_choosePivotCmpFunc144_c112.j12 k x.1.1 x.2.1.1⟩]
theorem slices_choosePivotCmpFunc144_c112.ok (k : Nat) : Okf (XR E) Try.prog 144 (slices_choosePivotCmpFunc144_c112.sig k) := ⟨fn_ok (C := fun k => tab.ctx fun f => lk f (slices_choosePivotCmpFunc144_c112.calls k)) (fun k => tie _) k (fun j hj => calls_ok (kc (slices_medianAdjacentCmpFunc154_c112.ok j) (kc (slices_medianCmpFunc155_c112.ok j) (kn)))) 400 Try.func144 (body := slices_choosePivotCmpFunc144_c112.body) (res := [.tmp 8, .tmp 9]) rfl (by kernel_rfl) slices_choosePivotCmpFunc144_c112.cuts (kc ⟨by kernel_rfl, rfl, fun _ => rfl, fun _ _ => by kernel_rfl⟩ (kn)) (fun x => by kernel_rfl), _, Try.func144, by kernel_rfl, by kernel_rfl⟩
/-! ### slices.partialInsertionSortCmpFunc: function 146 -/
mutual
def slices_partialInsertionSortCmpFunc146_c112.l3 : Nat → Int → Int → Unit → Int → Int → List S34 → Option ((List S34) × Bool)
  | 0, _, _, _, _, _, _ => none
  | k + 1, x0, x1, x2, x3, x4, x5 => if x4 < 5 then slices_partialInsertionSortCmpFunc146_c112.l5 k x0 x1 x2 x3 x4 x5 else some (x5, false)
def slices_partialInsertionSortCmpFunc146_c112.l5 : Nat → Int → Int → Unit → Int → Int → List S34 → Option ((List S34) × Bool)
  | 0, _, _, _, _, _, _ => none
  | k + 1, x0, x1, x2, x3, x4, x5 => if x3 < x1 then (if 0 ≤ x3 then (if x3 < (x5.length : Int) then (if 0 ≤ wrap64 (x3 - 1) then (if wrap64 (x3 - 1) < (x5.length : Int) then ((span_put_1.f k (rd34 x5 x3) (rd34 x5 (wrap64 (x3 - 1)))).bind fun r0 => if r0 < 0 then slices_partialInsertionSortCmpFunc146_c112.j7 k x0 x1 x2 x3 x4 x5 else slices_partialInsertionSortCmpFunc146_c112.l5 k x0 x1 x2 (wrap64 (x3 + 1)) x4 x5) else none) else none) else none) else none) else slices_partialInsertionSortCmpFunc146_c112.j7 k x0 x1 x2 x3 x4 x5
def slices_partialInsertionSortCmpFunc146_c112.j7 : Nat → Int → Int → Unit → Int → Int → List S34 → Option ((List S34) × Bool)
  | 0, _, _, _, _, _, _ => none
  | k + 1, x0, x1, x2, x3, x4, x5 => if x3 = x1 then some (x5, true) else if wrap64 (x1 - x0) < 50 then some (x5, false) else if 0 ≤ wrap64 (x3 - 1) then (if wrap64 (x3 - 1) < (x5.length : Int) then (if 0 ≤ x3 then (if x3 < (x5.length : Int) then (if 0 ≤ x3 then (if x3 < (x5.length : Int) then (if 0 ≤ wrap64 (x3 - 1) then (if wrap64 (x3 - 1) < ((x5.set (Int.toNat x3) (rd34 x5 (wrap64 (x3 - 1)))).length : Int) then (if wrap64 (x3 - x0) ≥ 2 then slices_partialInsertionSortCmpFunc146_c112.l14 k x0 x1 x2 x3 x4 (wrap64 (x3 - 1)) ((x5.set (Int.toNat x3) (rd34 x5 (wrap64 (x3 - 1)))).set (Int.toNat (wrap64 (x3 - 1))) (rd34 x5 x3)) else slices_partialInsertionSortCmpFunc146_c112.j18 k x0 x1 x2 x3 x4 ((x5.set (Int.toNat x3) (rd34 x5 (wrap64 (x3 - 1)))).set (Int.toNat (wrap64 (x3 - 1))) (rd34 x5 x3))) else none) else none) else none) else none) else none) else none) else none) else none
def slices_partialInsertionSortCmpFunc146_c112.l14 : Nat → Int → Int → Unit → Int → Int → Int → List S34 → Option ((List S34) × Bool)
  | 0, _, _, _, _, _, _, _ => none
  | k + 1, x0, x1, x2, x3, x4, x5, x6 => if x5 ≥ 1 then (if 0 ≤ x5 then (if x5 < (x6.length : Int) then (if 0 ≤ wrap64 (x5 - 1) then (if wrap64 (x5 - 1) < (x6.length : Int) then ((span_put_1.f k (rd34 x6 x5) (rd34 x6 (wrap64 (x5 - 1)))).bind fun r1 => if r1 < 0 then (if 0 ≤ wrap64 (x5 - 1) then (if wrap64 (x5 - 1) < (x6.length : Int) then (if 0 ≤ x5 then (if x5 < (x6.length : Int) then (if 0 ≤ x5 then (if x5 < (x6.length : Int) then (if 0 ≤ wrap64 (x5 - 1) then (if wrap64 (x5 - 1) < ((x6.set (Int.toNat x5) (rd34 x6 (wrap64 (x5 - 1)))).length : Int) then slices_partialInsertionSortCmpFunc146_c112.l14 k x0 x1 x2 x3 x4 (wrap64 (x5 - 1)) ((x6.set (Int.toNat x5) (rd34 x6 (wrap64 (x5 - 1)))).set (Int.toNat (wrap64 (x5 - 1))) (rd34 x6 x5)) else none) else none) else none) else none) else none) else none) else none) else none) else slices_partialInsertionSortCmpFunc146_c112.j18 k x0 x1 x2 x3 x4 x6) else none) else none) else none) else none) else slices_partialInsertionSortCmpFunc146_c112.j18 k x0 x1 x2 x3 x4 x6
def slices_partialInsertionSortCmpFunc146_c112.j18 : Nat → Int → Int → Unit → Int → Int → List S34 → Option ((List S34) × Bool)
  | 0, _, _, _, _, _, _ => none
  | k + 1, x0, x1, x2, x3, x4, x5 => if wrap64 (x1 - x3) ≥ 2 then slices_partialInsertionSortCmpFunc146_c112.l20 k x0 x1 x2 x3 x4 (wrap64 (x3 + 1)) x5 else slices_partialInsertionSortCmpFunc146_c112.j4 k x0 x1 x2 x3 x4 x5
def slices_partialInsertionSortCmpFunc146_c112.l20 : Nat → Int → Int → Unit → Int → Int → Int → List S34 → Option ((List S34) × Bool)
  | 0, _, _, _, _, _, _, _ => none
  | k + 1, x0, x1, x2, x3, x4, x5, x6 => if x5 < x1 then (if 0 ≤ x5 then (if x5 < (x6.length : Int) then (if 0 ≤ wrap64 (x5 - 1) then (if wrap64 (x5 - 1) < (x6.length : Int) then ((span_put_1.f k (rd34 x6 x5) (rd34 x6 (wrap64 (x5 - 1)))).bind fun r2 => if r2 < 0 then (if 0 ≤ wrap64 (x5 - 1) then (if wrap64 (x5 - 1) < (x6.length : Int) then (if 0 ≤ x5 then (if x5 < (x6.length : Int) then (if 0 ≤ x5 then (if x5 < (x6.length : Int) then (if 0 ≤ wrap64 (x5 - 1) then (if wrap64 (x5 - 1) < ((x6.set (Int.toNat x5) (rd34 x6 (wrap64 (x5 - 1)))).length : Int) then slices_partialInsertionSortCmpFunc146_c112.l20 k x0 x1 x2 x3 x4 (wrap64 (x5 + 1)) ((x6.set (Int.toNat x5) (rd34 x6 (wrap64 (x5 - 1)))).set (Int.toNat (wrap64 (x5 - 1))) (rd34 x6 x5)) else none) else none) else none) else none) else none) else none) else none) else none) else slices_partialInsertionSortCmpFunc146_c112.j4 k x0 x1 x2 x3 x4 x6) else none) else none) else none) else none) else slices_partialInsertionSortCmpFunc146_c112.j4 k x0 x1 x2 x3 x4 x6
def slices_partialInsertionSortCmpFunc146_c112.j4 : Nat → Int → Int → Unit → Int → Int → List S34 → Option ((List S34) × Bool)
  | 0, _, _, _, _, _, _ => none
  | k + 1, x0, x1, x2, x3, x4, x5 => slices_partialInsertionSortCmpFunc146_c112.l3 k x0 x1 x2 x3 (wrap64 (x4 + 1)) x5
end
def slices_partialInsertionSortCmpFunc146_c112.f (k : Nat) (a0 : List S34) (a1 : Int) (a2 : Int) (a3 : Unit) : Option ((List S34) × Bool) := slices_partialInsertionSortCmpFunc146_c112.l3 k a1 a2 a3 (wrap64 (a1 + 1)) 0 a0
def slices_partialInsertionSortCmpFunc146_c112.sig (k : Nat) : Sig E.toTys := ⟨[.slice (.st 0), .int .i64, .int .i64, .fnv 112], [(true, .slice (.st 0)), (false, .bool)], some 0, fun x => f k x.1 x.2.1 x.2.2.1 x.2.2.2.1⟩
noncomputable def slices_partialInsertionSortCmpFunc146_c112.body : Code := Try.f146.body.getD .skip
def slices_partialInsertionSortCmpFunc146_c112.calls (k : Nat) : List (Nat × Sig E.toTys) := [(112, span_put_1.sig k)]
def slices_partialInsertionSortCmpFunc146_c112.cuts : List (Cut E (RT E.toTys [(true, .slice (.st 0)), (false, .bool)])) := [⟨true, 3, ⟨cat [.one (.ref 0), .one (.val (.int .i64)), .one (.val (.int .i64)), .one (.val (.fnv 112))] (cat (ds 5) (cat [.one (.val (.int .i64)), .one (.val (.int .i64))] (ds 130))), [.arr (.st 0)], true⟩, fun k x => slices_partialInsertionSortCmpFunc146_c112.l3 k x.1.1 x.1.2.1 x.1.2.2.1 x.1.2.2.2.1 x.1.2.2.2.2.1 x.2.1⟩,
  ⟨true, 5, ⟨cat [.one (.ref 0), .one (.val (.int .i64)), .one (.val (.int .i64)), .one (.val (.fnv 112))] (cat (ds 5) (cat [.one (.val (.int .i64)), .one (.val (.int .i64))] (ds 130))), [.arr (.st 0)], true⟩, fun k x => slices_partialInsertionSortCmpFunc146_c112.l5 k x.1.1 x.1.2.1 x.1.2.2.1 x.1.2.2.2.1 x.1.2.2.2.2.1 x.2.1⟩,
  ⟨false, 7, ⟨cat [.one (.ref 0), .one (.val (.int .i64)), .one (.val (.int .i64)), .one (.val (.fnv 112))] (cat (ds 5) (cat [.one (.val (.int .i64)), .one (.val (.int .i64))] (ds 130))), [.arr (.st 0)], true⟩, fun k x => slices_partialInsertionSortCmpFunc146_c112.j7 k x.1.1 x.1.2.1 x.1.2.2.1 x.1.2.2.2.1 x.1.2.2.2.2.1 x.2.1⟩,
  ⟨true, 14, ⟨cat [.one (.ref 0), .one (.val (.int .i64)), .one (.val (.int .i64)), .one (.val (.fnv 112))] (cat (ds 5) (cat [.one (.val (.int .i64)), .one (.val (.int .i64)), .one (.val (.int .i64))] (ds 129))), [.arr (.st 0)], true⟩, fun k x => slices_partialInsertionSortCmpFunc146_c112.l14 k x.1.1 x.1.2.1 x.1.2.2.1 x.1.2.2.2.1 x.1.2.2.2.2.1 x.1.2.2.2.2.2.1 x.2.1⟩,
  ⟨false, 18, ⟨cat [.one (.ref 0), .one (.val (.int .i64)), .one (.val (.int .i64)), .one (.val (.fnv 112))] (cat (ds 5) (cat [.one (.val (.int .i64)), .one (.val (.int .i64))] (ds 130))), [.arr (.st 0)], true⟩, fun k x => slices_partialInsertionSortCmpFunc146_c112.j18 k x.1.1 x.1.2.1 x.1.2.2.1 x.1.2.2.2.1 x.1.2.2.2.2.1 x.2.1⟩,
  ⟨true, 20, ⟨cat [.one (.ref 0), .one (.val (.int .i64)), .one (.val (.int .i64)), .one (.val (.fnv 112))] (cat (ds 5) (cat [.one (.val (.int .i64)), .one (.val (.int .i64))] (cat (ds 1) (cat [.one (.val (.int .i64))] (ds 128))))), [.arr (.st 0)], true⟩, fun k x => slices_partialInsertionSortCmpFunc146_c112.l20 k x.1.1 x.1.2.1 x.1.2.2.1 x.1.2.2.2.1 x.1.2.2.2.2.1 x.1.2.2.2.2.2.1 x.2.1⟩,
  ⟨false, 4, ⟨cat [.one (.ref 0), .one (.val (.int .i64)), .one (.val (.int .i64)), .one (.val (.fnv 112))] (cat (ds 5) (cat [.one (.val (.int .i64)), .one (.val (.int .i64))] (ds 130))), [.arr (.st 0)], true⟩, fun k x => slices_partialInsertionSortCmpFunc146_c112.j4 k x.1.1 x.1.2.1 x.1.2.2.1 x.1.2.2.2.1 x.1.2.2.2.2.1 x.2.1⟩]
theorem slices_partialInsertionSortCmpFunc146_c112.ok (k : Nat) : Okf (XR E) Try.prog 146 (slices_partialInsertionSortCmpFunc146_c112.sig k) := ⟨fn_okIO (C := fun k => tab.ctx fun f => lk f (slices_partialInsertionSortCmpFunc146_c112.calls k)) (fun k => tie _) k (fun j hj => calls_ok (kc (span_put_1.ok j) (kn))) 400 0 Try.func146 (body := slices_partialInsertionSortCmpFunc146_c112.body) (res := [.tmp 8]) rfl (by kernel_rfl) slices_partialInsertionSortCmpFunc146_c112.cuts (kc ⟨by kernel_rfl, rfl, fun _ => rfl, fun _ _ => by kernel_rfl⟩ (kc ⟨by kernel_rfl, rfl, fun _ => rfl, fun _ _ => by kernel_rfl⟩ (kc ⟨by kernel_rfl, rfl, fun _ => rfl, fun _ _ => by kernel_rfl⟩ (kc ⟨by kernel_rfl, rfl, fun _ => rfl, fun _ _ => by kernel_rfl⟩ (kc ⟨by kernel_rfl, rfl, fun _ => rfl, fun _ _ => by kernel_rfl⟩ (kc ⟨by kernel_rfl, rfl, fun _ => rfl, fun _ _ => by kernel_rfl⟩ (kc ⟨by kernel_rfl, rfl, fun _ => rfl, fun _ _ => by kernel_rfl⟩ (kn)))))))) (fun x => by kernel_rfl), _, Try.func146, by kernel_rfl, by kernel_rfl⟩
/-! ### slices.partitionCmpFunc: function 148 -/
mutual
def slices_partitionCmpFunc148_c112.l3 : Nat → Int → Unit → Int → Int → List S34 → Option ((List S34) × Int × Bool)
  | 0, _, _, _, _, _ => none
  | k + 1, x0, x1, x2, x3, x4 => if x2 ≤ x3 then (if 0 ≤ x2 then (if x2 < (x4.length : Int) then (if 0 ≤ x0 then (if x0 < (x4.length : Int) then ((span_put_1.f k (rd34 x4 x2) (rd34 x4 x0)).bind fun r0 => if r0 < 0 then slices_partitionCmpFunc148_c112.l3 k x0 x1 (wrap64 (x2 + 1)) x3 x4 else slices_partitionCmpFunc148_c112.l5 k x0 x1 x2 x3 x4) else none) else none) else none) else none) else slices_partitionCmpFunc148_c112.l5 k x0 x1 x2 x3 x4
def slices_partitionCmpFunc148_c112.l5 : Nat → Int → Unit → Int → Int → List S34 → Option ((List S34) × Int × Bool)
  | 0, _, _, _, _, _ => none
  | k + 1, x0, x1, x2, x3, x4 => if x2 ≤ x3 then (if 0 ≤ x3 then (if x3 < (x4.length : Int) then (if 0 ≤ x0 then (if x0 < (x4.length : Int) then ((span_put_1.f k (rd34 x4 x3) (rd34 x4 x0)).bind fun r1 => if r1 < 0 then slices_partitionCmpFunc148_c112.j7 k x0 x1 x2 x3 x4 else slices_partitionCmpFunc148_c112.l5 k x0 x1 x2 (wrap64 (x3 - 1)) x4) else none) else none) else none) else none) else slices_partitionCmpFunc148_c112.j7 k x0 x1 x2 x3 x4
def slices_partitionCmpFunc148_c112.j7 : Nat → Int → Unit → Int → Int → List S34 → Option ((List S34) × Int × Bool)
  | 0, _, _, _, _, _ => none
  | k + 1, x0, x1, x2, x3, x4 => if x2 > x3 then (if 0 ≤ x0 then (if x0 < (x4.length : Int) then (if 0 ≤ x3 then (if x3 < (x4.length : Int) then (if 0 ≤ x3 then (if x3 < (x4.length : Int) then (if 0 ≤ x0 then (if x0 < ((x4.set (Int.toNat x3) (rd34 x4 x0)).length : Int) then some ((x4.set (Int.toNat x3) (rd34 x4 x0)).set (Int.toNat x0) (rd34 x4 x3), x3, true) else none) else none) else none) else none) else none) else none) else none) else none) else if 0 ≤ x3 then (if x3 < (x4.length : Int) then (if 0 ≤ x2 then (if x2 < (x4.length : Int) then (if 0 ≤ x2 then (if x2 < (x4.length : Int) then (if 0 ≤ x3 then (if x3 < ((x4.set (Int.toNat x2) (rd34 x4 x3)).length : Int) then slices_partitionCmpFunc148_c112.l1013 k x0 x1 (wrap64 (x2 + 1)) (wrap64 (x3 - 1)) ((x4.set (Int.toNat x2) (rd34 x4 x3)).set (Int.toNat x3) (rd34 x4 x2)) else none) else none) else none) else none) else none) else none) else none) else none
def slices_partitionCmpFunc148_c112.l1013 : Nat → Int → Unit → Int → Int → List S34 → Option ((List S34) × Int × Bool)
  | 0, _, _, _, _, _ => none
  | k + 1, x0, x1, x2, x3, x4 => slices_partitionCmpFunc148_c112.l13 k x0 x1 x2 x3 x4
def slices_partitionCmpFunc148_c112.l13 : Nat → Int → Unit → Int → Int → List S34 → Option ((List S34) × Int × Bool)
  | 0, _, _, _, _, _ => none
  | k + 1, x0, x1, x2, x3, x4 => if x2 ≤ x3 then (if 0 ≤ x2 then (if x2 < (x4.length : Int) then (if 0 ≤ x0 then (if x0 < (x4.length : Int) then ((span_put_1.f k (rd34 x4 x2) (rd34 x4 x0)).bind fun r2 => if r2 < 0 then slices_partitionCmpFunc148_c112.l13 k x0 x1 (wrap64 (x2 + 1)) x3 x4 else slices_partitionCmpFunc148_c112.l15 k x0 x1 x2 x3 x4) else none) else none) else none) else none) else slices_partitionCmpFunc148_c112.l15 k x0 x1 x2 x3 x4
def slices_partitionCmpFunc148_c112.l15 : Nat → Int → Unit → Int → Int → List S34 → Option ((List S34) × Int × Bool)
  | 0, _, _, _, _, _ => none
  | k + 1, x0, x1, x2, x3, x4 => if x2 ≤ x3 then (if 0 ≤ x3 then (if x3 < (x4.length : Int) then (if 0 ≤ x0 then (if x0 < (x4.length : Int) then ((span_put_1.f k (rd34 x4 x3) (rd34 x4 x0)).bind fun r3 => if r3 < 0 then slices_partitionCmpFunc148_c112.j17 k x0 x1 x2 x3 x4 else slices_partitionCmpFunc148_c112.l15 k x0 x1 x2 (wrap64 (x3 - 1)) x4) else none) else none) else none) else none) else slices_partitionCmpFunc148_c112.j17 k x0 x1 x2 x3 x4
def slices_partitionCmpFunc148_c112.j17 : Nat → Int → Unit → Int → Int → List S34 → Option ((List S34) × Int × Bool)
  | 0, _, _, _, _, _ => none
  | k + 1, x0, x1, x2, x3, x4 => if x2 > x3 then (if 0 ≤ x0 then (if x0 < (x4.length : Int) then (if 0 ≤ x3 then (if x3 < (x4.length : Int) then (if 0 ≤ x3 then (if x3 < (x4.length : Int) then (if 0 ≤ x0 then (if x0 < ((x4.set (Int.toNat x3) (rd34 x4 x0)).length : Int) then some ((x4.set (Int.toNat x3) (rd34 x4 x0)).set (Int.toNat x0) (rd34 x4 x3), x3, false) else none) else none) else none) else none) else none) else none) else none) else none) else if 0 ≤ x3 then (if x3 < (x4.length : Int) then (if 0 ≤ x2 then (if x2 < (x4.length : Int) then (if 0 ≤ x2 then (if x2 < (x4.length : Int) then (if 0 ≤ x3 then (if x3 < ((x4.set (Int.toNat x2) (rd34 x4 x3)).length : Int) then slices_partitionCmpFunc148_c112.l1013 k x0 x1 (wrap64 (x2 + 1)) (wrap64 (x3 - 1)) ((x4.set (Int.toNat x2) (rd34 x4 x3)).set (Int.toNat x3) (rd34 x4 x2)) else none) else none) else none) else none) else none) else none) else none) else none
end
def slices_partitionCmpFunc148_c112.f (k : Nat) (a0 : List S34) (a1 : Int) (a2 : Int) (a3 : Int) (a4 : Unit) : Option ((List S34) × Int × Bool) := if 0 ≤ a3 then (if a3 < (a0.length : Int) then (if 0 ≤ a1 then (if a1 < (a0.length : Int) then (if 0 ≤ a1 then (if a1 < (a0.length : Int) then (if 0 ≤ a3 then (if a3 < ((a0.set (Int.toNat a1) (rd34 a0 a3)).length : Int) then slices_partitionCmpFunc148_c112.l3 k a1 a4 (wrap64 (a1 + 1)) (wrap64 (a2 - 1)) ((a0.set (Int.toNat a1) (rd34 a0 a3)).set (Int.toNat a3) (rd34 a0 a1)) else none) else none) else none) else none) else none) else none) else none) else none
def slices_partitionCmpFunc148_c112.sig (k : Nat) : Sig E.toTys := ⟨[.slice (.st 0), .int .i64, .int .i64, .int .i64, .fnv 112], [(true, .slice (.st 0)), (false, .int .i64), (false, .bool)], some 0, fun x => f k x.1 x.2.1 x.2.2.1 x.2.2.2.1 x.2.2.2.2.1⟩
noncomputable def slices_partitionCmpFunc148_c112.body : Code := Try.f148.body.getD .skip
def slices_partitionCmpFunc148_c112.calls (k : Nat) : List (Nat × Sig E.toTys) := [(112, span_put_1.sig k)]
def slices_partitionCmpFunc148_c112.cuts : List (Cut E (RT E.toTys [(true, .slice (.st 0)), (false, .int .i64), (false, .bool)])) := [⟨true, 3, ⟨cat [.one (.ref 0), .one (.val (.int .i64))] (cat (ds 2) (cat [.one (.val (.fnv 112))] (cat (ds 7) (cat [.one (.val (.int .i64)), .one (.val (.int .i64))] (ds 164))))), [.arr (.st 0)], true⟩, fun k x => slices_partitionCmpFunc148_c112.l3 k x.1.1 x.1.2.1 x.1.2.2.1 x.1.2.2.2.1 x.2.1⟩,
  ⟨true, 5, ⟨cat [.one (.ref 0), .one (.val (.int .i64))] (cat (ds 2) (cat [.one (.val (.fnv 112))] (cat (ds 7) (cat [.one (.val (.int .i64)), .one (.val (.int .i64))] (ds 164))))), [.arr (.st 0)], true⟩, fun k x => slices_partitionCmpFunc148_c112.l5 k x.1.1 x.1.2.1 x.1.2.2.1 x.1.2.2.2.1 x.2.1⟩,
  ⟨false, 7, ⟨cat [.one (.ref 0), .one (.val (.int .i64))] (cat (ds 2) (cat [.one (.val (.fnv 112))] (cat (ds 7) (cat [.one (.val (.int .i64)), .one (.val (.int .i64))] (ds 164))))), [.arr (.st 0)], true⟩, fun k x => slices_partitionCmpFunc148_c112.j7 k x.1.1 x.1.2.1 x.1.2.2.1 x.1.2.2.2.1 x.2.1⟩,
  ⟨true, 1013, ⟨cat [.one (.ref 0), .one (.val (.int .i64))] (cat (ds 2) (cat [.one (.val (.fnv 112))] (cat (ds 7) (cat [.one (.val (.int .i64)), .one (.val (.int .i64))] (ds 164))))), [.arr (.st 0)], true⟩, fun k x => slices_partitionCmpFunc148_c112.l1013 k x.1.1 x.1.2.1 x.1.2.2.1 x.1.2.2.2.1 x.2.1⟩,
  ⟨true, 13, ⟨cat [.one (.ref 0), .one (.val (.int .i64))] (cat (ds 2) (cat [.one (.val (.fnv 112))] (cat (ds 7) (cat [.one (.val (.int .i64)), .one (.val (.int .i64))] (ds 164))))), [.arr (.st 0)], true⟩, fun k x => slices_partitionCmpFunc148_c112.l13 k x.1.1 x.1.2.1 x.1.2.2.1 x.1.2.2.2.1 x.2.1⟩,
  ⟨true, 15, ⟨cat [.one (.ref 0), .one (.val (.int .i64))] (cat (ds 2) (cat [.one (.val (.fnv 112))] (cat (ds 7) (cat [.one (.val (.int .i64)), .one (.val (.int .i64))] (ds 164))))), [.arr (.st 0)], true⟩, fun k x => slices_partitionCmpFunc148_c112.l15 k x.1.1 x.1.2.1 x.1.2.2.1 x.1.2.2.2.1 x.2.1⟩,
  ⟨false, 17, ⟨cat [.one (.ref 0), .one (.val (.int .i64))] (cat (ds 2) (cat [.one (.val (.fnv 112))] (cat (ds 7) (cat [.one (.val (.int .i64)), .one (.val (.int .i64))] (ds 164))))), [.arr (.st 0)], true⟩, fun k x => slices_partitionCmpFunc148_c112.j17 k x.1.1 x.1.2.1 x.1.2.2.1 x.1.2.2.2.1 x.2.1⟩]
theorem slices_partitionCmpFunc148_c112.ok (k : Nat) : Okf (XR E) Try.prog 148 (slices_partitionCmpFunc148_c112.sig k) := ⟨fn_okIO (C := fun k => tab.ctx fun f => lk f (slices_partitionCmpFunc148_c112.calls k)) (fun k => tie _) k (fun j hj => calls_ok (kc (span_put_1.ok j) (kn))) 400 0 Try.func148 (body := slices_partitionCmpFunc148_c112.body) (res := [.tmp 10, .tmp 11]) rfl (by kernel_rfl) slices_partitionCmpFunc148_c112.cuts (kc ⟨by kernel_rfl, rfl, fun _ => rfl, fun _ _ => by kernel_rfl⟩ (kc ⟨by kernel_rfl, rfl, fun _ => rfl, fun _ _ => by kernel_rfl⟩ (kc ⟨by kernel_rfl, rfl, fun _ => rfl, fun _ _ => by kernel_rfl⟩ (kc ⟨by kernel_rfl, rfl, fun _ => rfl, fun _ _ => by kernel_rfl⟩ (kc ⟨by kernel_rfl, rfl, fun _ => rfl, fun _ _ => by kernel_rfl⟩ (kc ⟨by kernel_rfl, rfl, fun _ => rfl, fun _ _ => by kernel_rfl⟩ (kc ⟨by kernel_rfl, rfl, fun _ => rfl, fun _ _ => by kernel_rfl⟩ (kn)))))))) (fun x => by kernel_rfl), _, Try.func148, by kernel_rfl, by kernel_rfl⟩
/-! ### slices.partitionEqualCmpFunc: function 147 -/
mutual
def slices_partitionEqualCmpFunc147_c112.l1003 : Nat → Int → Unit → Int → Int → List S34 → Option ((List S34) × Int)
  | 0, _, _, _, _, _ => none
  | k + 1, x0, x1, x2, x3, x4 => slices_partitionEqualCmpFunc147_c112.l3 k x0 x1 x2 x3 x4
def slices_partitionEqualCmpFunc147_c112.l3 : Nat → Int → Unit → Int → Int → List S34 → Option ((List S34) × Int)
  | 0, _, _, _, _, _ => none
  | k + 1, x0, x1, x2, x3, x4 => if x2 ≤ x3 then (if 0 ≤ x0 then (if x0 < (x4.length : Int) then (if 0 ≤ x2 then (if x2 < (x4.length : Int) then ((span_put_1.f k (rd34 x4 x0) (rd34 x4 x2)).bind fun r0 => if r0 < 0 then slices_partitionEqualCmpFunc147_c112.l5 k x0 x1 x2 x3 x4 else slices_partitionEqualCmpFunc147_c112.l3 k x0 x1 (wrap64 (x2 + 1)) x3 x4) else none) else none) else none) else none) else slices_partitionEqualCmpFunc147_c112.l5 k x0 x1 x2 x3 x4
def slices_partitionEqualCmpFunc147_c112.l5 : Nat → Int → Unit → Int → Int → List S34 → Option ((List S34) × Int)
  | 0, _, _, _, _, _ => none
  | k + 1, x0, x1, x2, x3, x4 => if x2 ≤ x3 then (if 0 ≤ x0 then (if x0 < (x4.length : Int) then (if 0 ≤ x3 then (if x3 < (x4.length : Int) then ((span_put_1.f k (rd34 x4 x0) (rd34 x4 x3)).bind fun r1 => if r1 < 0 then slices_partitionEqualCmpFunc147_c112.l5 k x0 x1 x2 (wrap64 (x3 - 1)) x4 else slices_partitionEqualCmpFunc147_c112.j7 k x0 x1 x2 x3 x4) else none) else none) else none) else none) else slices_partitionEqualCmpFunc147_c112.j7 k x0 x1 x2 x3 x4
def slices_partitionEqualCmpFunc147_c112.j7 : Nat → Int → Unit → Int → Int → List S34 → Option ((List S34) × Int)
  | 0, _, _, _, _, _ => none
  | k + 1, x0, x1, x2, x3, x4 => if x2 > x3 then some (x4, x2) else if 0 ≤ x3 then (if x3 < (x4.length : Int) then (if 0 ≤ x2 then (if x2 < (x4.length : Int) then (if 0 ≤ x2 then (if x2 < (x4.length : Int) then (if 0 ≤ x3 then (if x3 < ((x4.set (Int.toNat x2) (rd34 x4 x3)).length : Int) then slices_partitionEqualCmpFunc147_c112.l1003 k x0 x1 (wrap64 (x2 + 1)) (wrap64 (x3 - 1)) ((x4.set (Int.toNat x2) (rd34 x4 x3)).set (Int.toNat x3) (rd34 x4 x2)) else none) else none) else none) else none) else none) else none) else none) else none
end
def slices_partitionEqualCmpFunc147_c112.f (k : Nat) (a0 : List S34) (a1 : Int) (a2 : Int) (a3 : Int) (a4 : Unit) : Option ((List S34) × Int) := if 0 ≤ a3 then (if a3 < (a0.length : Int) then (if 0 ≤ a1 then (if a1 < (a0.length : Int) then (if 0 ≤ a1 then (if a1 < (a0.length : Int) then (if 0 ≤ a3 then (if a3 < ((a0.set (Int.toNat a1) (rd34 a0 a3)).length : Int) then slices_partitionEqualCmpFunc147_c112.l1003 k a1 a4 (wrap64 (a1 + 1)) (wrap64 (a2 - 1)) ((a0.set (Int.toNat a1) (rd34 a0 a3)).set (Int.toNat a3) (rd34 a0 a1)) else none) else none) else none) else none) else none) else none) else none) else none
def slices_partitionEqualCmpFunc147_c112.sig (k : Nat) : Sig E.toTys := ⟨[.slice (.st 0), .int .i64, .int .i64, .int .i64, .fnv 112], [(true, .slice (.st 0)), (false, .int .i64)], some 0, fun x => f k x.1 x.2.1 x.2.2.1 x.2.2.2.1 x.2.2.2.2.1⟩
noncomputable def slices_partitionEqualCmpFunc147_c112.body : Code := Try.f147.body.getD .skip
def slices_partitionEqualCmpFunc147_c112.calls (k : Nat) : List (Nat × Sig E.toTys) := [(112, span_put_1.sig k)]
def slices_partitionEqualCmpFunc147_c112.cuts : List (Cut E (RT E.toTys [(true, .slice (.st 0)), (false, .int .i64)])) := [⟨true, 1003, ⟨cat [.one (.ref 0), .one (.val (.int .i64))] (cat (ds 2) (cat [.one (.val (.fnv 112))] (cat (ds 6) (cat [.one (.val (.int .i64)), .one (.val (.int .i64))] (ds 77))))), [.arr (.st 0)], true⟩, fun k x => slices_partitionEqualCmpFunc147_c112.l1003 k x.1.1 x.1.2.1 x.1.2.2.1 x.1.2.2.2.1 x.2.1⟩,
  ⟨true, 3, ⟨cat [.one (.ref 0), .one (.val (.int .i64))] (cat (ds 2) (cat [.one (.val (.fnv 112))] (cat (ds 6) (cat [.one (.val (.int .i64)), .one (.val (.int .i64))] (ds 77))))), [.arr (.st 0)], true⟩, fun k x => slices_partitionEqualCmpFunc147_c112.l3 k x.1.1 x.1.2.1 x.1.2.2.1 x.1.2.2.2.1 x.2.1⟩,
  ⟨true, 5, ⟨cat [.one (.ref 0), .one (.val (.int .i64))] (cat (ds 2) (cat [.one (.val (.fnv 112))] (cat (ds 6) (cat [.one (.val (.int .i64)), .one (.val (.int .i64))] (ds 77))))), [.arr (.st 0)], true⟩, fun k x => slices_partitionEqualCmpFunc147_c112.l5 k x.1.1 x.1.2.1 x.1.2.2.1 x.1.2.2.2.1 x.2.1⟩,
  ⟨false, 7, ⟨cat [.one (.ref 0), .one (.val (.int .i64))] (cat (ds 2) (cat [.one (.val (.fnv 112))] (cat (ds 6) (cat [.one (.val (.int .i64)), .one (.val (.int .i64))] (ds 77))))), [.arr (.st 0)], true⟩, fun k x => slices_partitionEqualCmpFunc147_c112.j7 k x.1.1 x.1.2.1 x.1.2.2.1 x.1.2.2.2.1 x.2.1⟩]
theorem slices_partitionEqualCmpFunc147_c112.ok (k : Nat) : Okf (XR E) Try.prog 147 (slices_partitionEqualCmpFunc147_c112.sig k) := ⟨fn_okIO (C := fun k => tab.ctx fun f => lk f (slices_partitionEqualCmpFunc147_c112.calls k)) (fun k => tie _) k (fun j hj => calls_ok (kc (span_put_1.ok j) (kn))) 400 0 Try.func147 (body := slices_partitionEqualCmpFunc147_c112.body) (res := [.tmp 10]) rfl (by kernel_rfl) slices_partitionEqualCmpFunc147_c112.cuts (kc ⟨by kernel_rfl, rfl, fun _ => rfl, fun _ _ => by kernel_rfl⟩ (kc ⟨by kernel_rfl, rfl, fun _ => rfl, fun _ _ => by kernel_rfl⟩ (kc ⟨by kernel_rfl, rfl, fun _ => rfl, fun _ _ => by kernel_rfl⟩ (kc ⟨by kernel_rfl, rfl, fun _ => rfl, fun _ _ => by kernel_rfl⟩ (kn))))) (fun x => by kernel_rfl), _, Try.func147, by kernel_rfl, by kernel_rfl⟩
end Go.Proofs.Ytmoekjdlpfjhiaa.B
namespace Go.Proofs.Ytmoekjdlpfjhiaa.B
open Go.Proofs.Ytmoekjdlpfjhiaa.V.B Go.RowKit
set_option linter.unusedVariables false
/-! ### slices.pdqsortCmpFunc: function 133 -/
mutual
def slices_pdqsortCmpFunc133_c112.l2 : Nat → Int → Int → Int → Unit → Bool → Bool → List S34 → Option (List S34)
  | 0, _, _, _, _, _, _, _ => none
  | k + 1, x0, x1, x2, x3, x4, x5, x6 => if wrap64 (x1 - x0) ≤ 12 then ((slices_insertionSortCmpFunc141_c112.f k x6 x0 x1 x3).bind fun r0 => some r0) else if x2 = 0 then none else if (!x4) = true then none else (slices_choosePivotCmpFunc144_c112.f k x6 x0 x1 x3).bind fun r1 => if r1.2 = 2 then none else if x4 = true then (if x5 = true then (if r1.2 = 1 then ((slices_partialInsertionSortCmpFunc146_c112.f k x6 x0 x1 x3).bind fun r2 => if r2.2 = true then some r2.1 else slices_pdqsortCmpFunc133_c112.j17 k x0 x1 x2 x3 x4 x5 (wrap64 (x1 - x0)) r1.1 r2.1) else slices_pdqsortCmpFunc133_c112.j17 k x0 x1 x2 x3 x4 x5 (wrap64 (x1 - x0)) r1.1 x6) else slices_pdqsortCmpFunc133_c112.j17 k x0 x1 x2 x3 x4 x5 (wrap64 (x1 - x0)) r1.1 x6) else slices_pdqsortCmpFunc133_c112.j17 k x0 x1 x2 x3 x4 x5 (wrap64 (x1 - x0)) r1.1 x6
def slices_pdqsortCmpFunc133_c112.j17 : Nat → Int → Int → Int → Unit → Bool → Bool → Int → Int → List S34 → Option (List S34)
  | 0, _, _, _, _, _, _, _, _, _ => none
  | k + 1, x0, x1, x2, x3, x4, x5, x6, x7, x8 => if x0 > 0 then (if 0 ≤ wrap64 (x0 - 1) then (if wrap64 (x0 - 1) < (x8.length : Int) then (if 0 ≤ x7 then (if x7 < (x8.length : Int) then ((span_put_1.f k (rd34 x8 (wrap64 (x0 - 1))) (rd34 x8 x7)).bind fun r3 => if r3 < 0 then slices_pdqsortCmpFunc133_c112.j20 k x0 x1 x2 x3 x6 x7 x8 else (slices_partitionEqualCmpFunc147_c112.f k x8 x0 x1 x7 x3).bind fun r4 => slices_pdqsortCmpFunc133_c112.l2 k r4.2 x1 x2 x3 x4 x5 r4.1) else none) else none) else none) else none) else slices_pdqsortCmpFunc133_c112.j20 k x0 x1 x2 x3 x6 x7 x8
def slices_pdqsortCmpFunc133_c112.j20 : Nat → Int → Int → Int → Unit → Int → Int → List S34 → Option (List S34)
  | 0, _, _, _, _, _, _, _ => none
  | k + 1, x0, x1, x2, x3, x4, x5, x6 => (slices_partitionCmpFunc148_c112.f k x6 x0 x1 x5 x3).bind fun r5 => if wrap64 (r5.2.1 - x0) < wrap64 (x1 - r5.2.1) then ((slices_pdqsortCmpFunc133_c112.f k r5.1 x0 r5.2.1 x2 x3).bind fun r6 => slices_pdqsortCmpFunc133_c112.l2 k (wrap64 (r5.2.1 + 1)) x1 x2 x3 (decide (wrap64 (r5.2.1 - x0) ≥ wrap64 (Int.tdiv x4 8))) r5.2.2 r6) else (slices_pdqsortCmpFunc133_c112.f k r5.1 (wrap64 (r5.2.1 + 1)) x1 x2 x3).bind fun r7 => slices_pdqsortCmpFunc133_c112.l2 k x0 r5.2.1 x2 x3 (decide (wrap64 (x1 - r5.2.1) ≥ wrap64 (Int.tdiv x4 8))) r5.2.2 r7
def slices_pdqsortCmpFunc133_c112.f : Nat → List S34 → Int → Int → Int → Unit → Option (List S34)
  | 0, _, _, _, _, _ => none
  | k + 1, a0, a1, a2, a3, a4 => slices_pdqsortCmpFunc133_c112.l2 k a1 a2 a3 a4 true true a0
end
def slices_pdqsortCmpFunc133_c112.sig (k : Nat) : Sig E.toTys := ⟨[.slice (.st 0), .int .i64, .int .i64, .int .i64, .fnv 112], [(true, .slice (.st 0))], some 0, fun x => f k x.1 x.2.1 x.2.2.1 x.2.2.2.1 x.2.2.2.2.1⟩
noncomputable def slices_pdqsortCmpFunc133_c112.body : Code := Try.f133.body.getD .skip
def slices_pdqsortCmpFunc133_c112.calls (k : Nat) : List (Nat × Sig E.toTys) := [(141, slices_insertionSortCmpFunc141_c112.sig k), (144, slices_choosePivotCmpFunc144_c112.sig k), (146, slices_partialInsertionSortCmpFunc146_c112.sig k), (112, span_put_1.sig k), (147, slices_partitionEqualCmpFunc147_c112.sig k), (148, slices_partitionCmpFunc148_c112.sig k), (133, slices_pdqsortCmpFunc133_c112.sig k)]
def slices_pdqsortCmpFunc133_c112.cuts : List (Cut E (RT E.toTys [(true, .slice (.st 0))])) := [⟨true, 2, ⟨cat [.one (.ref 0), .one (.val (.int .i64)), .one (.val (.int .i64)), .one (.val (.int .i64)), .one (.val (.fnv 112))] (cat (ds 5) (cat [.one (.val (.bool)), .one (.val (.bool))] (ds 136))), [.arr (.st 0)], true⟩, fun k x => slices_pdqsortCmpFunc133_c112.l2 k x.1.1 x.1.2.1 x.1.2.2.1 x.1.2.2.2.1 x.1.2.2.2.2.1 x.1.2.2.2.2.2.1 x.2.1⟩,
  ⟨false, 17, ⟨cat [.one (.ref 0), .one (.val (.int .i64)), .one (.val (.int .i64)), .one (.val (.int .i64)), .one (.val (.fnv 112))] (cat (ds 5) (cat [.one (.val (.bool)), .one (.val (.bool)), .one (.val (.int .i64)), .one (.val (.int .i64))] (ds 134))), [.arr (.st 0)], true⟩, fun k x => slices_pdqsortCmpFunc133_c112.j17 k x.1.1 x.1.2.1 x.1.2.2.1 x.1.2.2.2.1 x.1.2.2.2.2.1 x.1.2.2.2.2.2.1 x.1.2.2.2.2.2.2.1 x.1.2.2.2.2.2.2.2.1 x.2.1⟩,
  ⟨false, 20, ⟨cat [.one (.ref 0), .one (.val (.int .i64)), .one (.val (.int .i64)), .one (.val (.int .i64)), .one (.val (.fnv 112))] (cat (ds 7) (cat [.one (.val (.int .i64)), .one (.val (.int .i64))] (ds 134))), [.arr (.st 0)], true⟩, fun k x => slices_pdqsortCmpFunc133_c112.j20 k x.1.1 x.1.2.1 x.1.2.2.1 x.1.2.2.2.1 x.1.2.2.2.2.1 x.1.2.2.2.2.2.1 x.2.1⟩]
theorem slices_pdqsortCmpFunc133_c112.oks (k : Nat) : Okf (XR E) Try.prog 133 (slices_pdqsortCmpFunc133_c112.sig k) := by
  induction k using Nat.strongRecOn with
  | ind k ih =>
  cases k with
  | zero => exact ⟨ok0 fun _ => rfl, _, Try.func133, by kernel_rfl, by kernel_rfl⟩
  | succ k => exact ⟨fn_okIO (C := fun k => tab.ctx fun f => lk f (slices_pdqsortCmpFunc133_c112.calls k)) (fun k => tie _) k (fun j hj => calls_ok (kc (slices_insertionSortCmpFunc141_c112.ok j) (kc (slices_choosePivotCmpFunc144_c112.ok j) (kc (slices_partialInsertionSortCmpFunc146_c112.ok j) (kc (span_put_1.ok j) (kc (slices_partitionEqualCmpFunc147_c112.ok j) (kc (slices_partitionCmpFunc148_c112.ok j) (kc (ih j (Nat.lt_succ_of_le hj)) (kn))))))))) 400 0 Try.func133 (body := slices_pdqsortCmpFunc133_c112.body) (res := []) rfl (by kernel_rfl) slices_pdqsortCmpFunc133_c112.cuts (kc ⟨by kernel_rfl, rfl, fun _ => rfl, fun _ _ => by kernel_rfl⟩ (kc ⟨by kernel_rfl, rfl, fun _ => rfl, fun _ _ => by kernel_rfl⟩ (kc ⟨by kernel_rfl, rfl, fun _ => rfl, fun _ _ => by kernel_rfl⟩ (kn)))) (fun x => by kernel_rfl), _, Try.func133, by kernel_rfl, by kernel_rfl⟩
theorem slices_pdqsortCmpFunc133_c112.ok (k : Nat) : Okf (XR E) Try.prog 133 (slices_pdqsortCmpFunc133_c112.sig k) := (slices_pdqsortCmpFunc133_c112.oks k)
/-! ### slices.SortFunc: function 111 -/
def slices_SortFunc111_c112.f (k : Nat) (a0 : List S34) (a1 : Unit) : Option (List S34) := (math_bits_Len.f k (IntKind.u64.wrap (a0.length : Int))).bind fun r0 => (slices_pdqsortCmpFunc133_c112.f k a0 0 (a0.length : Int) r0 a1).bind fun r1 => some r1
def slices_SortFunc111_c112.sig (k : Nat) : Sig E.toTys := ⟨[.slice (.st 0), .fnv 112], [(true, .slice (.st 0))], some 0, fun x => f k x.1 x.2.1⟩
noncomputable def slices_SortFunc111_c112.body : Code := Try.f111.body.getD .skip
def slices_SortFunc111_c112.calls (k : Nat) : List (Nat × Sig E.toTys) := [(134, math_bits_Len.sig k), (133, slices_pdqsortCmpFunc133_c112.sig k)]
def slices_SortFunc111_c112.cuts : List (Cut E (RT E.toTys [(true, .slice (.st 0))])) := []
theorem slices_SortFunc111_c112.ok (k : Nat) : Okf (XR E) Try.prog 111 (slices_SortFunc111_c112.sig k) := ⟨fn_okIO (C := fun k => tab.ctx fun f => lk f (slices_SortFunc111_c112.calls k)) (fun k => tie _) k (fun j hj => calls_ok (kc (math_bits_Len.ok j) (kc (slices_pdqsortCmpFunc133_c112.ok j) (kn)))) 400 0 Try.func111 (body := slices_SortFunc111_c112.body) (res := []) rfl (by kernel_rfl) slices_SortFunc111_c112.cuts (kn) (fun x => by kernel_rfl), _, Try.func111, by kernel_rfl, by kernel_rfl⟩
/-! ### steeple/span.put: function 70 -/
def span_put.l6 : Nat → List S34 → Int → Int → Int → Int → List S34 → Option (List S34)
  | 0, _, _, _, _, _, _ => none
  | k + 1, x0, x1, x2, x3, x4, x5 => if x2 < x1 then (if 0 ≤ x2 then (if x2 < (x0.length : Int) then ((span_lead.f k (⟨x3, x4⟩ : S34)).bind fun r1 => (span_has.f k (rd34 x0 x2) r1).bind fun r2 => if r2 = true then ((tower_Add.f k (rd34 x0 x2) (⟨x3, x4⟩ : S34)).bind fun r3 => if x5.length + [r3].length ≤ 140737488355328 / 16 then span_put.l6 k x0 x1 (wrap64 (x2 + 1)) x3 x4 (x5 ++ [r3]) else none) else if x5.length + [rd34 x0 x2].length ≤ 140737488355328 / 16 then span_put.l6 k x0 x1 (wrap64 (x2 + 1)) x3 x4 (x5 ++ [rd34 x0 x2]) else none) else none) else none) else if x5.length + [(⟨x3, x4⟩ : S34)].length ≤ 140737488355328 / 16 then ((slices_SortFunc111_c112.f k (x5 ++ [(⟨x3, x4⟩ : S34)]) ()).bind fun r4 => some r4) else none
def span_put.f (k : Nat) (a0 : List S34) (a1 : S34) : Option (List S34) := (span_less.f k a0 a1).bind fun r0 => if r0.f0 = 0 ∧ r0.f1 = 0 then some a0 else span_put.l6 k a0 (a0.length : Int) 0 r0.f0 r0.f1 []
def span_put.sig (k : Nat) : Sig E.toTys := ⟨[.slice (.st 0), .st 0], [(false, .slice (.st 0))], none, fun x => f k x.1 x.2.1⟩
noncomputable def span_put.body : Code := Try.f70.body.getD .skip
def span_put.calls (k : Nat) : List (Nat × Sig E.toTys) := [(71, span_less.sig k), (96, span_lead.sig k), (109, span_has.sig k), (49, tower_Add.sig k), (111, slices_SortFunc111_c112.sig k)]
def span_put.cuts : List (Cut E (RT E.toTys [(false, .slice (.st 0))])) := [⟨true, 6, ⟨cat (ds 3) (cat [.one (.ptr 0 0)] (cat (ds 1) (cat [.one (.ref 1)] (cat (ds 9) (cat [.one (.val (.slice (.st 0))), .one (.val (.int .i64)), .one (.val (.int .i64))] (ds 22)))))), [.var [.val (.int .u64), .val (.int .u64)], .arr (.st 0)], false⟩, fun k x => span_put.l6 k x.1.1 x.1.2.1 x.1.2.2.1 x.2.1.1 x.2.1.2.1 x.2.2.1⟩]
theorem span_put.ok (k : Nat) : Okf (XR E) Try.prog 70 (span_put.sig k) := ⟨fn_ok (C := fun k => tab.ctx fun f => lk f (span_put.calls k)) (fun k => tie _) k (fun j hj => calls_ok (kc (span_less.ok j) (kc (span_lead.ok j) (kc (span_has.ok j) (kc (tower_Add.ok j) (kc (slices_SortFunc111_c112.ok j) (kn))))))) 400 Try.func70 (body := span_put.body) (res := [.tmp 4]) rfl (by kernel_rfl) span_put.cuts (kc ⟨by kernel_rfl, rfl, fun _ => rfl, fun _ _ => by kernel_rfl⟩ (kn)) (fun x => by kernel_rfl), _, Try.func70, by kernel_rfl, by kernel_rfl⟩
/-! ### steeple/span.Basis: function 34 -/
def span_Basis.l3 : Nat → List S34 → List S34 → Int → Int → Option (List S34)
  | 0, _, _, _, _ => none
  | k + 1, x0, x1, x2, x3 => if x3 < x2 then (if 0 ≤ x3 then (if x3 < (x1.length : Int) then ((span_put.f k x0 (rd34 x1 x3)).bind fun r0 => span_Basis.l3 k r0 x1 x2 (wrap64 (x3 + 1))) else none) else none) else some x0
def span_Basis.f (k : Nat) (a0 : List S34) : Option (List S34) := span_Basis.l3 k [] a0 (a0.length : Int) 0
def span_Basis.sig (k : Nat) : Sig E.toTys := ⟨[.slice (.st 0)], [(false, .slice (.st 0))], none, fun x => f k x.1⟩
noncomputable def span_Basis.body : Code := Try.f34.body.getD .skip
def span_Basis.calls (k : Nat) : List (Nat × Sig E.toTys) := [(70, span_put.sig k)]
def span_Basis.cuts : List (Cut E (RT E.toTys [(false, .slice (.st 0))])) := [⟨true, 3, ⟨cat (ds 3) (cat [.one (.val (.slice (.st 0)))] (cat (ds 2) (cat [.one (.val (.slice (.st 0))), .one (.val (.int .i64)), .one (.val (.int .i64))] (ds 8)))), [], false⟩, fun k x => span_Basis.l3 k x.1.1 x.1.2.1 x.1.2.2.1 x.1.2.2.2.1⟩]
theorem span_Basis.ok (k : Nat) : Okf (XR E) Try.prog 34 (span_Basis.sig k) := ⟨fn_ok (C := fun k => tab.ctx fun f => lk f (span_Basis.calls k)) (fun k => tie _) k (fun j hj => calls_ok (kc (span_put.ok j) (kn))) 400 Try.func34 (body := span_Basis.body) (res := [.tmp 2]) rfl (by kernel_rfl) span_Basis.cuts (kc ⟨by kernel_rfl, rfl, fun _ => rfl, fun _ _ => by kernel_rfl⟩ (kn)) (fun x => by kernel_rfl), _, Try.func34, by kernel_rfl, by kernel_rfl⟩
/-! ### steeple/steeplelaw01.Ref: function 24 -/
def steeplelaw01_Ref.l3 : Nat → List S34 → Int → List S71 → Option (List S71)
  | 0, _, _, _ => none
  | k + 1, x0, x1, x2 => if x1 < (x0.length : Int) then (if 0 ≤ x1 then (if x1 < (x0.length : Int) then (if x2.length + [(⟨(rd34 x0 x1).f0, (rd34 x0 x1).f1⟩ : S71)].length ≤ 140737488355328 / 16 then steeplelaw01_Ref.l3 k x0 (wrap64 (x1 + 1)) (x2 ++ [(⟨(rd34 x0 x1).f0, (rd34 x0 x1).f1⟩ : S71)]) else none) else none) else none) else some x2
def steeplelaw01_Ref.f (k : Nat) (a0 : List S34) : Option (List S71) := steeplelaw01_Ref.l3 k a0 0 []
def steeplelaw01_Ref.sig (k : Nat) : Sig E.toTys := ⟨[.slice (.st 0)], [(true, .slice (.st 1))], none, fun x => f k x.1⟩
noncomputable def steeplelaw01_Ref.body : Code := Try.f24.body.getD .skip
def steeplelaw01_Ref.calls (k : Nat) : List (Nat × Sig E.toTys) := []
def steeplelaw01_Ref.cuts : List (Cut E (RT E.toTys [(true, .slice (.st 1))])) := [⟨true, 3, ⟨cat [.one (.val (.slice (.st 0)))] (cat (ds 2) (cat [.one (.ref 0), .one (.val (.int .i64))] (ds 14))), [.arr (.st 1)], false⟩, fun k x => steeplelaw01_Ref.l3 k x.1.1 x.1.2.1 x.2.1⟩]
theorem steeplelaw01_Ref.ok (k : Nat) : Okf (XR E) Try.prog 24 (steeplelaw01_Ref.sig k) := ⟨fn_ok (C := fun k => tab.ctx fun f => lk f (steeplelaw01_Ref.calls k)) (fun k => tie _) k (fun j hj => calls_ok (kn)) 400 Try.func24 (body := steeplelaw01_Ref.body) (res := [.tmp 2]) rfl (by kernel_rfl) steeplelaw01_Ref.cuts (kc ⟨by kernel_rfl, rfl, fun _ => rfl, fun _ _ => by kernel_rfl⟩ (kn)) (fun x => by kernel_rfl), _, Try.func24, by kernel_rfl, by kernel_rfl⟩
/-! ### steeple/steeplelaw01.Same: function 29 -/
def steeplelaw01_Same.l4 : Nat → List S34 → List S71 → Int → Option Bool
  | 0, _, _, _ => none
  | k + 1, x0, x1, x2 => if x2 < (x0.length : Int) then (if 0 ≤ x2 then (if x2 < (x0.length : Int) then (if 0 ≤ x2 then (if x2 < (x1.length : Int) then (if (rd34 x0 x2).f0 = (rd71 x1 x2).f0 ∧ (rd34 x0 x2).f1 = (rd71 x1 x2).f1 then steeplelaw01_Same.l4 k x0 x1 (wrap64 (x2 + 1)) else some false) else none) else none) else none) else none) else some true
def steeplelaw01_Same.f (k : Nat) (a0 : List S34) (a1 : List S71) : Option Bool := if (a0.length : Int) = (a1.length : Int) then steeplelaw01_Same.l4 k a0 a1 0 else some false
def steeplelaw01_Same.sig (k : Nat) : Sig E.toTys := ⟨[.slice (.st 0), .slice (.st 1)], [(false, .bool)], none, fun x => f k x.1 x.2.1⟩
noncomputable def steeplelaw01_Same.body : Code := Try.f29.body.getD .skip
def steeplelaw01_Same.calls (k : Nat) : List (Nat × Sig E.toTys) := []
def steeplelaw01_Same.cuts : List (Cut E (RT E.toTys [(false, .bool)])) := [⟨true, 4, ⟨cat [.one (.val (.slice (.st 0))), .one (.val (.slice (.st 1)))] (cat (ds 3) (cat [.one (.val (.int .i64))] (ds 20))), [], false⟩, fun k x => steeplelaw01_Same.l4 k x.1.1 x.1.2.1 x.1.2.2.1⟩]
theorem steeplelaw01_Same.ok (k : Nat) : Okf (XR E) Try.prog 29 (steeplelaw01_Same.sig k) := ⟨fn_ok (C := fun k => tab.ctx fun f => lk f (steeplelaw01_Same.calls k)) (fun k => tie _) k (fun j hj => calls_ok (kn)) 400 Try.func29 (body := steeplelaw01_Same.body) (res := [.tmp 4]) rfl (by kernel_rfl) steeplelaw01_Same.cuts (kc ⟨by kernel_rfl, rfl, fun _ => rfl, fun _ _ => by kernel_rfl⟩ (kn)) (fun x => by kernel_rfl), _, Try.func29, by kernel_rfl, by kernel_rfl⟩
/-! ### steeple/steeplelaw04.awake: function 32 -/
def steeplelaw04_awake.f (k : Nat) : Option Bool := (steeplelaw04_few.f k [1, 3]).bind fun r0 => (span_Turn.f k r0 2).bind fun r1 => (steeplelaw04_few.f k [3, 5, 6]).bind fun r2 => (span_Basis.f k r2).bind fun r3 => (steeplelaw04_few.f k [5, 3]).bind fun r4 => (steeplelaw01_Ref.f k r4).bind fun r5 => (steeplelaw01_Same.f k r3 r5).bind fun r6 => if r6 = true then (if r1.2 = 0 then ((steeplelaw04_few.f k [3, 2]).bind fun r7 => (steeplelaw01_Ref.f k r7).bind fun r8 => (steeplelaw01_Same.f k r1.1 r8).bind fun r9 => some r9) else some false) else some false
def steeplelaw04_awake.sig (k : Nat) : Sig E.toTys := ⟨[], [(false, .bool)], none, fun x => f k⟩
noncomputable def steeplelaw04_awake.body : Code := Try.f32.body.getD .skip
def steeplelaw04_awake.calls (k : Nat) : List (Nat × Sig E.toTys) := [(67, steeplelaw04_few.sig k), (66, span_Turn.sig k), (34, span_Basis.sig k), (24, steeplelaw01_Ref.sig k), (29, steeplelaw01_Same.sig k)]
def steeplelaw04_awake.cuts : List (Cut E (RT E.toTys [(false, .bool)])) := []
theorem steeplelaw04_awake.ok (k : Nat) : Okf (XR E) Try.prog 32 (steeplelaw04_awake.sig k) := ⟨fn_ok (C := fun k => tab.ctx fun f => lk f (steeplelaw04_awake.calls k)) (fun k => tie _) k (fun j hj => calls_ok (kc (steeplelaw04_few.ok j) (kc (span_Turn.ok j) (kc (span_Basis.ok j) (kc (steeplelaw01_Ref.ok j) (kc (steeplelaw01_Same.ok j) (kn))))))) 400 Try.func32 (body := steeplelaw04_awake.body) (res := [.tmp 0]) rfl (by kernel_rfl) steeplelaw04_awake.cuts (kn) (fun x => by kernel_rfl), _, Try.func32, by kernel_rfl, by kernel_rfl⟩
/-! ### steeple/steepleref02.Bit: function 73 -/
def steepleref02_Bit.f (k : Nat) (a0 : Int) : Option S71 := if a0 < 0 then some (⟨0, 0⟩ : S71) else if a0 > 127 then some (⟨0, 0⟩ : S71) else if a0 > 63 then (if 0 ≤ IntKind.u64.wrap (wrap64 (a0 - 64)) then some (⟨shl .u64 1 (IntKind.u64.wrap (wrap64 (a0 - 64))), 0⟩ : S71) else none) else if 0 ≤ IntKind.u64.wrap a0 then some (⟨0, shl .u64 1 (IntKind.u64.wrap a0)⟩ : S71) else none
def steepleref02_Bit.sig (k : Nat) : Sig E.toTys := ⟨[.int .i64], [(false, .st 1)], none, fun x => f k x.1⟩
noncomputable def steepleref02_Bit.body : Code := Try.f73.body.getD .skip
def steepleref02_Bit.calls (k : Nat) : List (Nat × Sig E.toTys) := []
def steepleref02_Bit.cuts : List (Cut E (RT E.toTys [(false, .st 1)])) := []
theorem steepleref02_Bit.ok (k : Nat) : Okf (XR E) Try.prog 73 (steepleref02_Bit.sig k) := ⟨fn_ok (C := fun k => tab.ctx fun f => lk f (steepleref02_Bit.calls k)) (fun k => tie _) k (fun j hj => calls_ok (kn)) 400 Try.func73 (body := steepleref02_Bit.body) (res := [.cell 2 71]) rfl (by kernel_rfl) steepleref02_Bit.cuts (kn) (fun x => by kernel_rfl), _, Try.func73, by kernel_rfl, by kernel_rfl⟩
/-! ### steeple/steepleref02.Has: function 40 -/
def steepleref02_Has.f (k : Nat) (a0 : S71) (a1 : Int) : Option Bool := (steepleref02_Bit.f k a1).bind fun r0 => some (!decide (bits .or .u64 (bits .and .u64 a0.f1 r0.f1) (bits .and .u64 a0.f0 r0.f0) = 0))
def steepleref02_Has.sig (k : Nat) : Sig E.toTys := ⟨[.st 1, .int .i64], [(false, .bool)], none, fun x => f k x.1 x.2.1⟩
noncomputable def steepleref02_Has.body : Code := Try.f40.body.getD .skip
def steepleref02_Has.calls (k : Nat) : List (Nat × Sig E.toTys) := [(73, steepleref02_Bit.sig k)]
def steepleref02_Has.cuts : List (Cut E (RT E.toTys [(false, .bool)])) := []
theorem steepleref02_Has.ok (k : Nat) : Okf (XR E) Try.prog 40 (steepleref02_Has.sig k) := ⟨fn_ok (C := fun k => tab.ctx fun f => lk f (steepleref02_Has.calls k)) (fun k => tie _) k (fun j hj => calls_ok (kc (steepleref02_Bit.ok j) (kn))) 400 Try.func40 (body := steepleref02_Has.body) (res := [.tmp 4]) rfl (by kernel_rfl) steepleref02_Has.cuts (kn) (fun x => by kernel_rfl), _, Try.func40, by kernel_rfl, by kernel_rfl⟩
/-! ### steeple/steepleref04.in: function 68 -/
def steepleref04_in.l2 : Nat → List Int → Int → Int → Option Bool
  | 0, _, _, _ => none
  | k + 1, x0, x1, x2 => if x2 < (x0.length : Int) then (if 0 ≤ x2 then (if x2 < (x0.length : Int) then (if rdI x0 x2 = x1 then some true else steepleref04_in.l2 k x0 x1 (wrap64 (x2 + 1))) else none) else none) else some false
def steepleref04_in.f (k : Nat) (a0 : List Int) (a1 : Int) : Option Bool := steepleref04_in.l2 k a0 a1 0
def steepleref04_in.sig (k : Nat) : Sig E.toTys := ⟨[.slice (.int .i64), .int .i64], [(false, .bool)], none, fun x => f k x.1 x.2.1⟩
noncomputable def steepleref04_in.body : Code := Try.f68.body.getD .skip
def steepleref04_in.calls (k : Nat) : List (Nat × Sig E.toTys) := []
def steepleref04_in.cuts : List (Cut E (RT E.toTys [(false, .bool)])) := [⟨true, 2, ⟨cat [.one (.val (.slice (.int .i64))), .one (.val (.int .i64))] (cat (ds 3) (cat [.one (.val (.int .i64))] (ds 12))), [], false⟩, fun k x => steepleref04_in.l2 k x.1.1 x.1.2.1 x.1.2.2.1⟩]
theorem steepleref04_in.ok (k : Nat) : Okf (XR E) Try.prog 68 (steepleref04_in.sig k) := ⟨fn_ok (C := fun k => tab.ctx fun f => lk f (steepleref04_in.calls k)) (fun k => tie _) k (fun j hj => calls_ok (kn)) 400 Try.func68 (body := steepleref04_in.body) (res := [.tmp 4]) rfl (by kernel_rfl) steepleref04_in.cuts (kc ⟨by kernel_rfl, rfl, fun _ => rfl, fun _ _ => by kernel_rfl⟩ (kn)) (fun x => by kernel_rfl), _, Try.func68, by kernel_rfl, by kernel_rfl⟩
/-! ### steeple/steepleref02.Add: function 64 -/
def steepleref02_Add.f (k : Nat) (a0 : S71) (a1 : S71) : Option S71 := some (⟨bits .xor .u64 a0.f0 a1.f0, bits .xor .u64 a0.f1 a1.f1⟩ : S71)
def steepleref02_Add.sig (k : Nat) : Sig E.toTys := ⟨[.st 1, .st 1], [(false, .st 1)], none, fun x => f k x.1 x.2.1⟩
noncomputable def steepleref02_Add.body : Code := Try.f64.body.getD .skip
def steepleref02_Add.calls (k : Nat) : List (Nat × Sig E.toTys) := []
def steepleref02_Add.cuts : List (Cut E (RT E.toTys [(false, .st 1)])) := []
theorem steepleref02_Add.ok (k : Nat) : Okf (XR E) Try.prog 64 (steepleref02_Add.sig k) := ⟨fn_ok (C := fun k => tab.ctx fun f => lk f (steepleref02_Add.calls k)) (fun k => tie _) k (fun j hj => calls_ok (kn)) 400 Try.func64 (body := steepleref02_Add.body) (res := [.cell 4 71]) rfl (by kernel_rfl) steepleref02_Add.cuts (kn) (fun x => by kernel_rfl), _, Try.func64, by kernel_rfl, by kernel_rfl⟩
/-! ### steeple/steepleref04.clear: function 69 -/
mutual
def steepleref04_clear.l3 : Nat → List S71 → Int → Int → Int → List S71 → Option (List S71)
  | 0, _, _, _, _, _ => none
  | k + 1, x0, x1, x2, x3, x4 => if x3 < (x0.length : Int) then (if x3 = x1 then steepleref04_clear.j7 k x0 x1 x2 x3 x4 else if 0 ≤ x3 then (if x3 < (x0.length : Int) then ((steepleref02_Has.f k (rd71 x0 x3) x2).bind fun r0 => if r0 = true then (if 0 ≤ x3 then (if x3 < (x0.length : Int) then (if 0 ≤ x1 then (if x1 < (x0.length : Int) then ((steepleref02_Add.f k (rd71 x0 x3) (rd71 x0 x1)).bind fun r1 => if x4.length + [r1].length ≤ 140737488355328 / 16 then steepleref04_clear.j4 k x0 x1 x2 x3 (x4 ++ [r1]) else none) else none) else none) else none) else none) else steepleref04_clear.j7 k x0 x1 x2 x3 x4) else none) else none) else some x4
def steepleref04_clear.j7 : Nat → List S71 → Int → Int → Int → List S71 → Option (List S71)
  | 0, _, _, _, _, _ => none
  | k + 1, x0, x1, x2, x3, x4 => if 0 ≤ x3 then (if x3 < (x0.length : Int) then (if x4.length + [rd71 x0 x3].length ≤ 140737488355328 / 16 then steepleref04_clear.j4 k x0 x1 x2 x3 (x4 ++ [rd71 x0 x3]) else none) else none) else none
def steepleref04_clear.j4 : Nat → List S71 → Int → Int → Int → List S71 → Option (List S71)
  | 0, _, _, _, _, _ => none
  | k + 1, x0, x1, x2, x3, x4 => steepleref04_clear.l3 k x0 x1 x2 (wrap64 (x3 + 1)) x4
end
def steepleref04_clear.f (k : Nat) (a0 : List S71) (a1 : Int) (a2 : Int) : Option (List S71) := steepleref04_clear.l3 k a0 a1 a2 0 []
def steepleref04_clear.sig (k : Nat) : Sig E.toTys := ⟨[.slice (.st 1), .int .i64, .int .i64], [(true, .slice (.st 1))], none, fun x => f k x.1 x.2.1 x.2.2.1⟩
noncomputable def steepleref04_clear.body : Code := Try.f69.body.getD .skip
def steepleref04_clear.calls (k : Nat) : List (Nat × Sig E.toTys) := [(40, steepleref02_Has.sig k), (64, steepleref02_Add.sig k)]
def steepleref04_clear.cuts : List (Cut E (RT E.toTys [(true, .slice (.st 1))])) := [⟨true, 3, ⟨cat [.one (.val (.slice (.st 1))), .one (.val (.int .i64)), .one (.val (.int .i64))] (cat (ds 4) (cat [.one (.ref 0), .one (.val (.int .i64))] (ds 37))), [.arr (.st 1)], false⟩, fun k x => steepleref04_clear.l3 k x.1.1 x.1.2.1 x.1.2.2.1 x.1.2.2.2.1 x.2.1⟩,
  ⟨false, 7, ⟨cat [.one (.val (.slice (.st 1))), .one (.val (.int .i64)), .one (.val (.int .i64))] (cat (ds 4) (cat [.one (.ref 0), .one (.val (.int .i64))] (ds 37))), [.arr (.st 1)], false⟩, fun k x => steepleref04_clear.j7 k x.1.1 x.1.2.1 x.1.2.2.1 x.1.2.2.2.1 x.2.1⟩,
  ⟨false, 4, ⟨cat [.one (.val (.slice (.st 1))), .one (.val (.int .i64)), .one (.val (.int .i64))] (cat (ds 4) (cat [.one (.ref 0), .one (.val (.int .i64))] (ds 37))), [.arr (.st 1)], false⟩, fun k x => steepleref04_clear.j4 k x.1.1 x.1.2.1 x.1.2.2.1 x.1.2.2.2.1 x.2.1⟩]
theorem steepleref04_clear.ok (k : Nat) : Okf (XR E) Try.prog 69 (steepleref04_clear.sig k) := ⟨fn_ok (C := fun k => tab.ctx fun f => lk f (steepleref04_clear.calls k)) (fun k => tie _) k (fun j hj => calls_ok (kc (steepleref02_Has.ok j) (kc (steepleref02_Add.ok j) (kn)))) 400 Try.func69 (body := steepleref04_clear.body) (res := [.tmp 6]) rfl (by kernel_rfl) steepleref04_clear.cuts (kc ⟨by kernel_rfl, rfl, fun _ => rfl, fun _ _ => by kernel_rfl⟩ (kc ⟨by kernel_rfl, rfl, fun _ => rfl, fun _ _ => by kernel_rfl⟩ (kc ⟨by kernel_rfl, rfl, fun _ => rfl, fun _ _ => by kernel_rfl⟩ (kn)))) (fun x => by kernel_rfl), _, Try.func69, by kernel_rfl, by kernel_rfl⟩
/-! ### steeple/steepleref04.Basis: function 33 -/
mutual
def steepleref04_Basis.l4 : Nat → List S71 → Int → List Int → Option (List S71)
  | 0, _, _, _ => none
  | k + 1, x0, x1, x2 => if x1 ≥ 0 then steepleref04_Basis.l8 k x0 x1 (-1) 0 x2 else steepleref04_Basis.l17 k x0 0 x2 []
def steepleref04_Basis.l8 : Nat → List S71 → Int → Int → Int → List Int → Option (List S71)
  | 0, _, _, _, _, _ => none
  | k + 1, x0, x1, x2, x3, x4 => if x3 < (x0.length : Int) then (if x2 < 0 then (if 0 ≤ x3 then (if x3 < (x0.length : Int) then ((steepleref02_Has.f k (rd71 x0 x3) x1).bind fun r0 => if r0 = true then ((steepleref04_in.f k x4 x3).bind fun r1 => if (!r1) = true then steepleref04_Basis.j9 k x0 x1 x3 x3 x4 else steepleref04_Basis.j9 k x0 x1 x2 x3 x4) else steepleref04_Basis.j9 k x0 x1 x2 x3 x4) else none) else none) else steepleref04_Basis.j9 k x0 x1 x2 x3 x4) else if x2 ≥ 0 then ((steepleref04_clear.f k x0 x2 x1).bind fun r2 => if x4.length + [x2].length ≤ 140737488355328 / 8 then steepleref04_Basis.l4 k r2 (wrap64 (x1 - 1)) (x4 ++ [x2]) else none) else steepleref04_Basis.l4 k x0 (wrap64 (x1 - 1)) x4
def steepleref04_Basis.l17 : Nat → List S71 → Int → List Int → List S71 → Option (List S71)
  | 0, _, _, _, _ => none
  | k + 1, x0, x1, x2, x3 => if x1 < (x2.length : Int) then (if 0 ≤ x1 then (if x1 < (x2.length : Int) then (if 0 ≤ rdI x2 x1 then (if rdI x2 x1 < (x0.length : Int) then (if x3.length + [rd71 x0 (rdI x2 x1)].length ≤ 140737488355328 / 16 then steepleref04_Basis.l17 k x0 (wrap64 (x1 + 1)) x2 (x3 ++ [rd71 x0 (rdI x2 x1)]) else none) else none) else none) else none) else none) else some x3
def steepleref04_Basis.j9 : Nat → List S71 → Int → Int → Int → List Int → Option (List S71)
  | 0, _, _, _, _, _ => none
  | k + 1, x0, x1, x2, x3, x4 => steepleref04_Basis.l8 k x0 x1 x2 (wrap64 (x3 + 1)) x4
end
def steepleref04_Basis.f (k : Nat) (a0 : List S71) : Option (List S71) := steepleref04_Basis.l4 k a0 127 []
def steepleref04_Basis.sig (k : Nat) : Sig E.toTys := ⟨[.slice (.st 1)], [(true, .slice (.st 1))], none, fun x => f k x.1⟩
noncomputable def steepleref04_Basis.body : Code := Try.f33.body.getD .skip
def steepleref04_Basis.calls (k : Nat) : List (Nat × Sig E.toTys) := [(40, steepleref02_Has.sig k), (68, steepleref04_in.sig k), (69, steepleref04_clear.sig k)]
def steepleref04_Basis.cuts : List (Cut E (RT E.toTys [(true, .slice (.st 1))])) := [⟨true, 4, ⟨cat (ds 3) (cat [.one (.val (.slice (.st 1))), .one (.ref 0), .one (.val (.int .i64))] (ds 59)), [.arr (.int .i64)], false⟩, fun k x => steepleref04_Basis.l4 k x.1.1 x.1.2.1 x.2.1⟩,
  ⟨true, 8, ⟨cat (ds 3) (cat [.one (.val (.slice (.st 1))), .one (.ref 0), .one (.val (.int .i64)), .one (.val (.int .i64)), .one (.val (.int .i64))] (ds 57)), [.arr (.int .i64)], false⟩, fun k x => steepleref04_Basis.l8 k x.1.1 x.1.2.1 x.1.2.2.1 x.1.2.2.2.1 x.2.1⟩,
  ⟨true, 17, ⟨cat (ds 3) (cat [.one (.val (.slice (.st 1))), .one (.ref 0)] (cat (ds 3) (cat [.one (.ref 1), .one (.val (.int .i64))] (ds 55)))), [.arr (.int .i64), .arr (.st 1)], false⟩, fun k x => steepleref04_Basis.l17 k x.1.1 x.1.2.1 x.2.1 x.2.2.1⟩,
  ⟨false, 9, ⟨cat (ds 3) (cat [.one (.val (.slice (.st 1))), .one (.ref 0), .one (.val (.int .i64)), .one (.val (.int .i64)), .one (.val (.int .i64))] (ds 57)), [.arr (.int .i64)], false⟩, fun k x => steepleref04_Basis.j9 k x.1.1 x.1.2.1 x.1.2.2.1 x.1.2.2.2.1 x.2.1⟩]
theorem steepleref04_Basis.ok (k : Nat) : Okf (XR E) Try.prog 33 (steepleref04_Basis.sig k) := ⟨fn_ok (C := fun k => tab.ctx fun f => lk f (steepleref04_Basis.calls k)) (fun k => tie _) k (fun j hj => calls_ok (kc (steepleref02_Has.ok j) (kc (steepleref04_in.ok j) (kc (steepleref04_clear.ok j) (kn))))) 400 Try.func33 (body := steepleref04_Basis.body) (res := [.tmp 2]) rfl (by kernel_rfl) steepleref04_Basis.cuts (kc ⟨by kernel_rfl, rfl, fun _ => rfl, fun _ _ => by kernel_rfl⟩ (kc ⟨by kernel_rfl, rfl, fun _ => rfl, fun _ _ => by kernel_rfl⟩ (kc ⟨by kernel_rfl, rfl, fun _ => rfl, fun _ _ => by kernel_rfl⟩ (kc ⟨by kernel_rfl, rfl, fun _ => rfl, fun _ _ => by kernel_rfl⟩ (kn))))) (fun x => by kernel_rfl), _, Try.func33, by kernel_rfl, by kernel_rfl⟩
/-! ### steeple/span.Rank: function 35 -/
def span_Rank.f (k : Nat) (a0 : List S34) : Option Int := (span_Basis.f k a0).bind fun r0 => some (r0.length : Int)
def span_Rank.sig (k : Nat) : Sig E.toTys := ⟨[.slice (.st 0)], [(false, .int .i64)], none, fun x => f k x.1⟩
noncomputable def span_Rank.body : Code := Try.f35.body.getD .skip
def span_Rank.calls (k : Nat) : List (Nat × Sig E.toTys) := [(34, span_Basis.sig k)]
def span_Rank.cuts : List (Cut E (RT E.toTys [(false, .int .i64)])) := []
theorem span_Rank.ok (k : Nat) : Okf (XR E) Try.prog 35 (span_Rank.sig k) := ⟨fn_ok (C := fun k => tab.ctx fun f => lk f (span_Rank.calls k)) (fun k => tie _) k (fun j hj => calls_ok (kc (span_Basis.ok j) (kn))) 400 Try.func35 (body := span_Rank.body) (res := [.tmp 2]) rfl (by kernel_rfl) span_Rank.cuts (kn) (fun x => by kernel_rfl), _, Try.func35, by kernel_rfl, by kernel_rfl⟩
/-! ### steeple/span.In: function 36 -/
def span_In.f (k : Nat) (a0 : List S34) (a1 : S34) : Option Bool := (span_Basis.f k a0).bind fun r0 => (span_less.f k r0 a1).bind fun r1 => some (decide (r1.f0 = 0 ∧ r1.f1 = 0))
def span_In.sig (k : Nat) : Sig E.toTys := ⟨[.slice (.st 0), .st 0], [(false, .bool)], none, fun x => f k x.1 x.2.1⟩
noncomputable def span_In.body : Code := Try.f36.body.getD .skip
def span_In.calls (k : Nat) : List (Nat × Sig E.toTys) := [(34, span_Basis.sig k), (71, span_less.sig k)]
def span_In.cuts : List (Cut E (RT E.toTys [(false, .bool)])) := []
theorem span_In.ok (k : Nat) : Okf (XR E) Try.prog 36 (span_In.sig k) := ⟨fn_ok (C := fun k => tab.ctx fun f => lk f (span_In.calls k)) (fun k => tie _) k (fun j hj => calls_ok (kc (span_Basis.ok j) (kc (span_less.ok j) (kn)))) 400 Try.func36 (body := span_In.body) (res := [.tmp 4]) rfl (by kernel_rfl) span_In.cuts (kn) (fun x => by kernel_rfl), _, Try.func36, by kernel_rfl, by kernel_rfl⟩
/-! ### steeple/steepleref04.In: function 37 -/
def steepleref04_In.l3 : Nat → List S71 → Int → Int → Int → List S71 → Option Bool
  | 0, _, _, _, _, _ => none
  | k + 1, x0, x1, x2, x3, x4 => if x1 < (x0.length : Int) then (if 0 ≤ x1 then (if x1 < (x0.length : Int) then (if x4.length + [rd71 x0 x1].length ≤ 140737488355328 / 16 then steepleref04_In.l3 k x0 (wrap64 (x1 + 1)) x2 x3 (x4 ++ [rd71 x0 x1]) else none) else none) else none) else if x4.length + [(⟨x2, x3⟩ : S71)].length ≤ 140737488355328 / 16 then ((steepleref04_Basis.f k (x4 ++ [(⟨x2, x3⟩ : S71)])).bind fun r0 => (steepleref04_Basis.f k x0).bind fun r1 => some (decide ((r0.length : Int) = (r1.length : Int)))) else none
def steepleref04_In.f (k : Nat) (a0 : List S71) (a1 : S71) : Option Bool := steepleref04_In.l3 k a0 0 a1.f0 a1.f1 []
def steepleref04_In.sig (k : Nat) : Sig E.toTys := ⟨[.slice (.st 1), .st 1], [(false, .bool)], none, fun x => f k x.1 x.2.1⟩
noncomputable def steepleref04_In.body : Code := Try.f37.body.getD .skip
def steepleref04_In.calls (k : Nat) : List (Nat × Sig E.toTys) := [(33, steepleref04_Basis.sig k)]
def steepleref04_In.cuts : List (Cut E (RT E.toTys [(false, .bool)])) := [⟨true, 3, ⟨cat [.one (.val (.slice (.st 1)))] (cat (ds 2) (cat [.one (.ptr 0 0)] (cat (ds 1) (cat [.one (.ref 1), .one (.val (.int .i64))] (ds 24))))), [.var [.val (.int .u64), .val (.int .u64)], .arr (.st 1)], false⟩, fun k x => steepleref04_In.l3 k x.1.1 x.1.2.1 x.2.1.1 x.2.1.2.1 x.2.2.1⟩]
theorem steepleref04_In.ok (k : Nat) : Okf (XR E) Try.prog 37 (steepleref04_In.sig k) := ⟨fn_ok (C := fun k => tab.ctx fun f => lk f (steepleref04_In.calls k)) (fun k => tie _) k (fun j hj => calls_ok (kc (steepleref04_Basis.ok j) (kn))) 400 Try.func37 (body := steepleref04_In.body) (res := [.tmp 4]) rfl (by kernel_rfl) steepleref04_In.cuts (kc ⟨by kernel_rfl, rfl, fun _ => rfl, fun _ _ => by kernel_rfl⟩ (kn)) (fun x => by kernel_rfl), _, Try.func37, by kernel_rfl, by kernel_rfl⟩
/-! ### slices.Equal: function 72 -/
def slices_Equal72.l4 : Nat → List S34 → List S34 → Int → Int → Option Bool
  | 0, _, _, _, _ => none
  | k + 1, x0, x1, x2, x3 => if x3 < x2 then (if 0 ≤ x3 then (if x3 < (x0.length : Int) then (if 0 ≤ x3 then (if x3 < (x1.length : Int) then (if (rd34 x0 x3).f0 = (rd34 x1 x3).f0 ∧ (rd34 x0 x3).f1 = (rd34 x1 x3).f1 then slices_Equal72.l4 k x0 x1 x2 (wrap64 (x3 + 1)) else some false) else none) else none) else none) else none) else some true
def slices_Equal72.f (k : Nat) (a0 : List S34) (a1 : List S34) : Option Bool := if (a0.length : Int) = (a1.length : Int) then slices_Equal72.l4 k a0 a1 (a0.length : Int) 0 else some false
def slices_Equal72.sig (k : Nat) : Sig E.toTys := ⟨[.slice (.st 0), .slice (.st 0)], [(false, .bool)], none, fun x => f k x.1 x.2.1⟩
noncomputable def slices_Equal72.body : Code := Try.f72.body.getD .skip
def slices_Equal72.calls (k : Nat) : List (Nat × Sig E.toTys) := []
def slices_Equal72.cuts : List (Cut E (RT E.toTys [(false, .bool)])) := [⟨true, 4, ⟨cat [.one (.val (.slice (.st 0))), .one (.val (.slice (.st 0)))] (cat (ds 10) (cat [.one (.val (.int .i64)), .one (.val (.int .i64))] (ds 12))), [], false⟩, fun k x => slices_Equal72.l4 k x.1.1 x.1.2.1 x.1.2.2.1 x.1.2.2.2.1⟩]
theorem slices_Equal72.ok (k : Nat) : Okf (XR E) Try.prog 72 (slices_Equal72.sig k) := ⟨fn_ok (C := fun k => tab.ctx fun f => lk f (slices_Equal72.calls k)) (fun k => tie _) k (fun j hj => calls_ok (kn)) 400 Try.func72 (body := slices_Equal72.body) (res := [.tmp 4]) rfl (by kernel_rfl) slices_Equal72.cuts (kc ⟨by kernel_rfl, rfl, fun _ => rfl, fun _ _ => by kernel_rfl⟩ (kn)) (fun x => by kernel_rfl), _, Try.func72, by kernel_rfl, by kernel_rfl⟩
/-! ### steeple/span.Same: function 38 -/
def span_Same.f (k : Nat) (a0 : List S34) (a1 : List S34) : Option Bool := (span_Basis.f k a0).bind fun r0 => (span_Basis.f k a1).bind fun r1 => (slices_Equal72.f k r0 r1).bind fun r2 => some r2
def span_Same.sig (k : Nat) : Sig E.toTys := ⟨[.slice (.st 0), .slice (.st 0)], [(false, .bool)], none, fun x => f k x.1 x.2.1⟩
noncomputable def span_Same.body : Code := Try.f38.body.getD .skip
def span_Same.calls (k : Nat) : List (Nat × Sig E.toTys) := [(34, span_Basis.sig k), (72, slices_Equal72.sig k)]
def span_Same.cuts : List (Cut E (RT E.toTys [(false, .bool)])) := []
theorem span_Same.ok (k : Nat) : Okf (XR E) Try.prog 38 (span_Same.sig k) := ⟨fn_ok (C := fun k => tab.ctx fun f => lk f (span_Same.calls k)) (fun k => tie _) k (fun j hj => calls_ok (kc (span_Basis.ok j) (kc (slices_Equal72.ok j) (kn)))) 400 Try.func38 (body := span_Same.body) (res := [.tmp 4]) rfl (by kernel_rfl) span_Same.cuts (kn) (fun x => by kernel_rfl), _, Try.func38, by kernel_rfl, by kernel_rfl⟩
/-! ### steeple/steeplelaw04.SpanBases: function 7 -/
mutual
def steeplelaw04_SpanBases.l6 : Nat → List S34 → List S34 → Bool → Int → Int → Int → List S71 → List S71 → Option Bool
  | 0, _, _, _, _, _, _, _, _ => none
  | k + 1, x0, x1, x2, x3, x4, x5, x6, x7 => if x2 = true then (if x3 < (x6.length : Int) then (if 0 ≤ x3 then (if x3 < (x6.length : Int) then (if 0 ≤ x3 then (if x3 < (x7.length : Int) then steeplelaw04_SpanBases.l6 k x0 x1 (decide ((rd71 x6 x3).f0 = (rd71 x7 x3).f0 ∧ (rd71 x6 x3).f1 = (rd71 x7 x3).f1)) (wrap64 (x3 + 1)) x4 x5 x6 x7 else none) else none) else none) else none) else steeplelaw04_SpanBases.j9 k x0 x1 x2 x4 x5 x6) else steeplelaw04_SpanBases.j9 k x0 x1 x2 x4 x5 x6
def steeplelaw04_SpanBases.j9 : Nat → List S34 → List S34 → Bool → Int → Int → List S71 → Option Bool
  | 0, _, _, _, _, _, _ => none
  | k + 1, x0, x1, x2, x3, x4, x5 => (steeplelaw04_awake.f k).bind fun r6 => if r6 = true then ((span_Basis.f k x0).bind fun r7 => (steeplelaw01_Same.f k r7 x5).bind fun r8 => if r8 = true then ((span_Rank.f k x0).bind fun r9 => if r9 = (x5.length : Int) then ((span_In.f k x0 (⟨x3, x4⟩ : S34)).bind fun r10 => (steeplelaw01_Ref.f k x0).bind fun r11 => (steepleref04_In.f k r11 (⟨x3, x4⟩ : S71)).bind fun r12 => if r10 = r12 then ((span_Same.f k x0 x1).bind fun r13 => some (decide (r13 = x2))) else some false) else some false) else some false) else some false
end
def steeplelaw04_SpanBases.f (k : Nat) (a0 : List S34) (a1 : List S34) (a2 : S34) : Option Bool := if (a0.length : Int) > 20 then ((steeplelaw04_awake.f k).bind fun r0 => some r0) else if (a1.length : Int) > 20 then ((steeplelaw04_awake.f k).bind fun r1 => some r1) else (steeplelaw01_Ref.f k a0).bind fun r2 => (steepleref04_Basis.f k r2).bind fun r3 => (steeplelaw01_Ref.f k a1).bind fun r4 => (steepleref04_Basis.f k r4).bind fun r5 => steeplelaw04_SpanBases.l6 k a0 a1 (decide ((r3.length : Int) = (r5.length : Int))) 0 a2.f0 a2.f1 r3 r5
def steeplelaw04_SpanBases.sig (k : Nat) : Sig E.toTys := ⟨[.slice (.st 0), .slice (.st 0), .st 0], [(false, .bool)], none, fun x => f k x.1 x.2.1 x.2.2.1⟩
noncomputable def steeplelaw04_SpanBases.body : Code := Try.f7.body.getD .skip
def steeplelaw04_SpanBases.calls (k : Nat) : List (Nat × Sig E.toTys) := [(32, steeplelaw04_awake.sig k), (24, steeplelaw01_Ref.sig k), (33, steepleref04_Basis.sig k), (34, span_Basis.sig k), (29, steeplelaw01_Same.sig k), (35, span_Rank.sig k), (36, span_In.sig k), (37, steepleref04_In.sig k), (38, span_Same.sig k)]
def steeplelaw04_SpanBases.cuts : List (Cut E (RT E.toTys [(false, .bool)])) := [⟨true, 6, ⟨cat [.one (.val (.slice (.st 0))), .one (.val (.slice (.st 0)))] (cat (ds 3) (cat [.one (.ptr 0 0)] (cat (ds 1) (cat [.one (.ref 1), .one (.ref 2), .one (.val (.bool)), .one (.val (.int .i64))] (ds 69))))), [.var [.val (.int .u64), .val (.int .u64)], .arr (.st 1), .arr (.st 1)], false⟩, fun k x => steeplelaw04_SpanBases.l6 k x.1.1 x.1.2.1 x.1.2.2.1 x.1.2.2.2.1 x.2.1.1 x.2.1.2.1 x.2.2.1 x.2.2.2.1⟩,
  ⟨false, 9, ⟨cat [.one (.val (.slice (.st 0))), .one (.val (.slice (.st 0)))] (cat (ds 3) (cat [.one (.ptr 0 0)] (cat (ds 1) (cat [.one (.ref 1)] (cat (ds 1) (cat [.one (.val (.bool))] (ds 70))))))), [.var [.val (.int .u64), .val (.int .u64)], .arr (.st 1)], false⟩, fun k x => steeplelaw04_SpanBases.j9 k x.1.1 x.1.2.1 x.1.2.2.1 x.2.1.1 x.2.1.2.1 x.2.2.1⟩]
theorem steeplelaw04_SpanBases.ok (k : Nat) : Okf (XR E) Try.prog 7 (steeplelaw04_SpanBases.sig k) := ⟨fn_ok (C := fun k => tab.ctx fun f => lk f (steeplelaw04_SpanBases.calls k)) (fun k => tie _) k (fun j hj => calls_ok (kc (steeplelaw04_awake.ok j) (kc (steeplelaw01_Ref.ok j) (kc (steepleref04_Basis.ok j) (kc (span_Basis.ok j) (kc (steeplelaw01_Same.ok j) (kc (span_Rank.ok j) (kc (span_In.ok j) (kc (steepleref04_In.ok j) (kc (span_Same.ok j) (kn))))))))))) 400 Try.func7 (body := steeplelaw04_SpanBases.body) (res := [.tmp 6]) rfl (by kernel_rfl) steeplelaw04_SpanBases.cuts (kc ⟨by kernel_rfl, rfl, fun _ => rfl, fun _ _ => by kernel_rfl⟩ (kc ⟨by kernel_rfl, rfl, fun _ => rfl, fun _ _ => by kernel_rfl⟩ (kn))) (fun x => by kernel_rfl), _, Try.func7, by kernel_rfl, by kernel_rfl⟩
/-! ### steeple/steepleref04.Lead: function 39 -/
def steepleref04_Lead.l3 : Nat → Int → Int → Int → Int → Option Int
  | 0, _, _, _, _ => none
  | k + 1, x0, x1, x2, x3 => if x1 < 128 then ((steepleref02_Has.f k (⟨x2, x3⟩ : S71) x1).bind fun r0 => if r0 = true then steepleref04_Lead.l3 k x1 (wrap64 (x1 + 1)) x2 x3 else steepleref04_Lead.l3 k x0 (wrap64 (x1 + 1)) x2 x3) else some x0
def steepleref04_Lead.f (k : Nat) (a0 : S71) : Option Int := steepleref04_Lead.l3 k (-1) 0 a0.f0 a0.f1
def steepleref04_Lead.sig (k : Nat) : Sig E.toTys := ⟨[.st 1], [(false, .int .i64)], none, fun x => f k x.1⟩
noncomputable def steepleref04_Lead.body : Code := Try.f39.body.getD .skip
def steepleref04_Lead.calls (k : Nat) : List (Nat × Sig E.toTys) := [(40, steepleref02_Has.sig k)]
def steepleref04_Lead.cuts : List (Cut E (RT E.toTys [(false, .int .i64)])) := [⟨true, 3, ⟨cat (ds 1) (cat [.one (.ptr 0 0)] (cat (ds 1) (cat [.one (.val (.int .i64)), .one (.val (.int .i64))] (ds 9)))), [.var [.val (.int .u64), .val (.int .u64)]], false⟩, fun k x => steepleref04_Lead.l3 k x.1.1 x.1.2.1 x.2.1.1 x.2.1.2.1⟩]
theorem steepleref04_Lead.ok (k : Nat) : Okf (XR E) Try.prog 39 (steepleref04_Lead.sig k) := ⟨fn_ok (C := fun k => tab.ctx fun f => lk f (steepleref04_Lead.calls k)) (fun k => tie _) k (fun j hj => calls_ok (kc (steepleref02_Has.ok j) (kn))) 400 Try.func39 (body := steepleref04_Lead.body) (res := [.tmp 2]) rfl (by kernel_rfl) steepleref04_Lead.cuts (kc ⟨by kernel_rfl, rfl, fun _ => rfl, fun _ _ => by kernel_rfl⟩ (kn)) (fun x => by kernel_rfl), _, Try.func39, by kernel_rfl, by kernel_rfl⟩
/-! ### steeple/span.Point: function 41 -/
mutual
def span_Point.l3 : Nat → List S34 → Int → Int → Int → Int → Int → Int → Int → Option S34
  | 0, _, _, _, _, _, _, _, _ => none
  | k + 1, x0, x1, x2, x3, x4, x5, x6, x7 => if x3 < x2 then (if x1 > 0 then (if 0 ≤ x3 then (if bits .and .i64 (shr .i64 x1 x3) 1 = 1 then (if 0 ≤ x3 then (if x3 < (x0.length : Int) then ((tower_Add.f k (⟨x6, x7⟩ : S34) (rd34 x0 x3)).bind fun r0 => span_Point.j7 k x0 x1 x2 x3 x4 x5 r0.f0 r0.f1) else none) else none) else span_Point.j7 k x0 x1 x2 x3 x4 x5 x6 x7) else none) else span_Point.j7 k x0 x1 x2 x3 x4 x5 x6 x7) else some (⟨x6, x7⟩ : S34)
def span_Point.j7 : Nat → List S34 → Int → Int → Int → Int → Int → Int → Int → Option S34
  | 0, _, _, _, _, _, _, _, _ => none
  | k + 1, x0, x1, x2, x3, x4, x5, x6, x7 => span_Point.l3 k x0 x1 x2 (wrap64 (x3 + 1)) x4 x5 x6 x7
end
def span_Point.f (k : Nat) (a0 : List S34) (a1 : Int) : Option S34 := span_Point.l3 k a0 a1 (if 62 < (a0.length : Int) then (62 : Int) else (a0.length : Int)) 0 0 0 0 0
def span_Point.sig (k : Nat) : Sig E.toTys := ⟨[.slice (.st 0), .int .i64], [(false, .st 0)], none, fun x => f k x.1 x.2.1⟩
noncomputable def span_Point.body : Code := Try.f41.body.getD .skip
def span_Point.calls (k : Nat) : List (Nat × Sig E.toTys) := [(49, tower_Add.sig k)]
def span_Point.cuts : List (Cut E (RT E.toTys [(false, .st 0)])) := [⟨true, 3, ⟨cat [.one (.val (.slice (.st 0))), .one (.val (.int .i64))] (cat (ds 2) (cat [.one (.ptr 0 0), .one (.ptr 1 0)] (cat (ds 3) (cat [.one (.val (.int .i64)), .one (.val (.int .i64))] (ds 19))))), [.var [.val (.int .u64), .val (.int .u64)], .var [.val (.int .u64), .val (.int .u64)]], false⟩, fun k x => span_Point.l3 k x.1.1 x.1.2.1 x.1.2.2.1 x.1.2.2.2.1 x.2.1.1 x.2.1.2.1 x.2.2.1.1 x.2.2.1.2.1⟩,
  ⟨false, 7, ⟨cat [.one (.val (.slice (.st 0))), .one (.val (.int .i64))] (cat (ds 2) (cat [.one (.ptr 0 0), .one (.ptr 1 0)] (cat (ds 3) (cat [.one (.val (.int .i64)), .one (.val (.int .i64))] (ds 19))))), [.var [.val (.int .u64), .val (.int .u64)], .var [.val (.int .u64), .val (.int .u64)]], false⟩, fun k x => span_Point.j7 k x.1.1 x.1.2.1 x.1.2.2.1 x.1.2.2.2.1 x.2.1.1 x.2.1.2.1 x.2.2.1.1 x.2.2.1.2.1⟩]
theorem span_Point.ok (k : Nat) : Okf (XR E) Try.prog 41 (span_Point.sig k) := ⟨fn_ok (C := fun k => tab.ctx fun f => lk f (span_Point.calls k)) (fun k => tie _) k (fun j hj => calls_ok (kc (tower_Add.ok j) (kn))) 400 Try.func41 (body := span_Point.body) (res := [.cell 4 34]) rfl (by kernel_rfl) span_Point.cuts (kc ⟨by kernel_rfl, rfl, fun _ => rfl, fun _ _ => by kernel_rfl⟩ (kc ⟨by kernel_rfl, rfl, fun _ => rfl, fun _ _ => by kernel_rfl⟩ (kn))) (fun x => by kernel_rfl), _, Try.func41, by kernel_rfl, by kernel_rfl⟩
/-! ### steeple/steeplelaw04.SpanKeeps: function 8 -/
mutual
def steeplelaw04_SpanKeeps.l5 : Nat → List S34 → Int → List S34 → Int → Option Bool
  | 0, _, _, _, _ => none
  | k + 1, x0, x1, x2, x3 => if x3 < (x0.length : Int) then (if 0 ≤ x3 then (if x3 < (x0.length : Int) then ((span_In.f k x2 (rd34 x0 x3)).bind fun r2 => if (!r2) = true then some false else steeplelaw04_SpanKeeps.l5 k x0 x1 x2 (wrap64 (x3 + 1))) else none) else none) else steeplelaw04_SpanKeeps.l10 k x0 x1 x2 0
def steeplelaw04_SpanKeeps.l10 : Nat → List S34 → Int → List S34 → Int → Option Bool
  | 0, _, _, _, _ => none
  | k + 1, x0, x1, x2, x3 => if x3 < (x2.length : Int) then (if 0 ≤ x3 then (if x3 < (x2.length : Int) then ((steepleref04_Lead.f k (⟨(rd34 x2 x3).f0, (rd34 x2 x3).f1⟩ : S71)).bind fun r3 => if r3 < 0 then some false else if 0 ≤ x3 then (if x3 < (x2.length : Int) then ((span_In.f k x0 (rd34 x2 x3)).bind fun r4 => if (!r4) = true then some false else if x3 > 0 then (if 0 ≤ wrap64 (x3 - 1) then (if wrap64 (x3 - 1) < (x2.length : Int) then ((steepleref04_Lead.f k (⟨(rd34 x2 (wrap64 (x3 - 1))).f0, (rd34 x2 (wrap64 (x3 - 1))).f1⟩ : S71)).bind fun r5 => if r3 ≥ r5 then some false else steeplelaw04_SpanKeeps.l16 k x0 x1 x2 x3 r3 0) else none) else none) else steeplelaw04_SpanKeeps.l16 k x0 x1 x2 x3 r3 0) else none) else none) else none) else none) else (steeplelaw04_awake.f k).bind fun r6 => if r6 = true then ((span_Point.f k x0 x1).bind fun r7 => (span_In.f k x0 r7).bind fun r8 => if r8 = true then ((span_Same.f k x0 x2).bind fun r9 => some r9) else some false) else some false
def steeplelaw04_SpanKeeps.l16 : Nat → List S34 → Int → List S34 → Int → Int → Int → Option Bool
  | 0, _, _, _, _, _, _ => none
  | k + 1, x0, x1, x2, x3, x4, x5 => if x5 < (x2.length : Int) then (if x5 = x3 then steeplelaw04_SpanKeeps.l16 k x0 x1 x2 x3 x4 (wrap64 (x5 + 1)) else if 0 ≤ x5 then (if x5 < (x2.length : Int) then ((steepleref02_Has.f k (⟨(rd34 x2 x5).f0, (rd34 x2 x5).f1⟩ : S71) x4).bind fun r10 => if r10 = true then some false else steeplelaw04_SpanKeeps.l16 k x0 x1 x2 x3 x4 (wrap64 (x5 + 1))) else none) else none) else steeplelaw04_SpanKeeps.l10 k x0 x1 x2 (wrap64 (x3 + 1))
end
def steeplelaw04_SpanKeeps.f (k : Nat) (a0 : List S34) (a1 : Int) : Option Bool := if (a0.length : Int) > 20 then ((steeplelaw04_awake.f k).bind fun r0 => some r0) else (span_Basis.f k a0).bind fun r1 => steeplelaw04_SpanKeeps.l5 k a0 a1 r1 0
def steeplelaw04_SpanKeeps.sig (k : Nat) : Sig E.toTys := ⟨[.slice (.st 0), .int .i64], [(false, .bool)], none, fun x => f k x.1 x.2.1⟩
noncomputable def steeplelaw04_SpanKeeps.body : Code := Try.f8.body.getD .skip
def steeplelaw04_SpanKeeps.calls (k : Nat) : List (Nat × Sig E.toTys) := [(32, steeplelaw04_awake.sig k), (34, span_Basis.sig k), (36, span_In.sig k), (39, steepleref04_Lead.sig k), (41, span_Point.sig k), (38, span_Same.sig k), (40, steepleref02_Has.sig k)]
def steeplelaw04_SpanKeeps.cuts : List (Cut E (RT E.toTys [(false, .bool)])) := [⟨true, 5, ⟨cat [.one (.val (.slice (.st 0))), .one (.val (.int .i64))] (cat (ds 3) (cat [.one (.val (.slice (.st 0))), .one (.val (.int .i64))] (ds 88))), [], false⟩, fun k x => steeplelaw04_SpanKeeps.l5 k x.1.1 x.1.2.1 x.1.2.2.1 x.1.2.2.2.1⟩,
  ⟨true, 10, ⟨cat [.one (.val (.slice (.st 0))), .one (.val (.int .i64))] (cat (ds 3) (cat [.one (.val (.slice (.st 0)))] (cat (ds 1) (cat [.one (.val (.int .i64))] (ds 87))))), [], false⟩, fun k x => steeplelaw04_SpanKeeps.l10 k x.1.1 x.1.2.1 x.1.2.2.1 x.1.2.2.2.1⟩,
  ⟨true, 16, ⟨cat [.one (.val (.slice (.st 0))), .one (.val (.int .i64))] (cat (ds 3) (cat [.one (.val (.slice (.st 0)))] (cat (ds 1) (cat [.one (.val (.int .i64)), .one (.val (.int .i64)), .one (.val (.int .i64))] (ds 85))))), [], false⟩, fun k x => steeplelaw04_SpanKeeps.l16 k x.1.1 x.1.2.1 x.1.2.2.1 x.1.2.2.2.1 x.1.2.2.2.2.1 x.1.2.2.2.2.2.1⟩]
theorem steeplelaw04_SpanKeeps.ok (k : Nat) : Okf (XR E) Try.prog 8 (steeplelaw04_SpanKeeps.sig k) := ⟨fn_ok (C := fun k => tab.ctx fun f => lk f (steeplelaw04_SpanKeeps.calls k)) (fun k => tie _) k (fun j hj => calls_ok (kc (steeplelaw04_awake.ok j) (kc (span_Basis.ok j) (kc (span_In.ok j) (kc (steepleref04_Lead.ok j) (kc (span_Point.ok j) (kc (span_Same.ok j) (kc (steepleref02_Has.ok j) (kn))))))))) 400 Try.func8 (body := steeplelaw04_SpanKeeps.body) (res := [.tmp 4]) rfl (by kernel_rfl) steeplelaw04_SpanKeeps.cuts (kc ⟨by kernel_rfl, rfl, fun _ => rfl, fun _ _ => by kernel_rfl⟩ (kc ⟨by kernel_rfl, rfl, fun _ => rfl, fun _ _ => by kernel_rfl⟩ (kc ⟨by kernel_rfl, rfl, fun _ => rfl, fun _ _ => by kernel_rfl⟩ (kn)))) (fun x => by kernel_rfl), _, Try.func8, by kernel_rfl, by kernel_rfl⟩
end Go.Proofs.Ytmoekjdlpfjhiaa.B

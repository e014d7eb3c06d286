/- Own text: merged by pack2.py. -/
import Derived.Test.YtohlooljopjmjaaProg
import Derived.Test.YtohlooljopjmjaaMBa
import Derived.Test.YtohlooljopjmjaaMBb
import Derived.Test.YtohlooljopjmjaaMBc
set_option linter.unusedSimpArgs false
set_option linter.unusedVariables false
namespace Go.Proofs.Ytohlooljopjmjaa.B
open Go.Proofs.Ytohlooljopjmjaa.V.B Go.RowKit
set_option linter.unusedVariables false
structure S25 where
  f0 : Int
  f1 : Int
structure S30 where
  f0 : Int
  f1 : Int
structure S96 where
  f0 : S25
  f1 : List Bool
structure S58 where
  f0 : Int
  f1 : List S25
structure S102 where
  f0 : Int
  f1 : List S25
  f2 : List S25
  f3 : List S25
structure S80 where
  f0 : List S25
  f1 : S25
def Es : Nat → Type
  | 0 => S25
  | 1 => S30
  | 2 => S96
  | 3 => S58
  | 4 => S102
  | 5 => S80
  | _ + 6 => Unit
def Efs : Nat → List Ty
  | 0 => [.int .u64, .int .u64]
  | 1 => [.int .u64, .int .u64]
  | 2 => [.int .u64, .int .u64, .slice .bool]
  | 3 => [.int .i64, .slice (.st 0)]
  | 4 => [.int .i64, .slice (.st 0), .slice (.st 0), .slice (.st 0)]
  | 5 => [.slice (.st 0), .int .u64, .int .u64]
  | _ + 6 => []
def z25 : S25 := ⟨0, 0⟩
def z30 : S30 := ⟨0, 0⟩
def z96 : S96 := ⟨z25, []⟩
def z58 : S58 := ⟨0, []⟩
def z102 : S102 := ⟨0, [], [], []⟩
def z80 : S80 := ⟨[], z25⟩
def E : Env where
  S := Es
  fs := Efs
  z := fun n => match n with | 0 => z25 | 1 => z30 | 2 => z96 | 3 => z58 | 4 => z102 | 5 => z80 | _ + 6 => ()
  to := fun n => match n with | 0 => fun (x : S25) => (x.f0, x.f1, ()) | 1 => fun (x : S30) => (x.f0, x.f1, ()) | 2 => fun (x : S96) => (x.f0.f0, x.f0.f1, x.f1, ()) | 3 => fun (x : S58) => (x.f0, x.f1, ()) | 4 => fun (x : S102) => (x.f0, x.f1, x.f2, x.f3, ()) | 5 => fun (x : S80) => (x.f0, x.f1.f0, x.f1.f1, ()) | _ + 6 => fun _ => ()
  of := fun n => match n with | 0 => fun x => (⟨x.1, x.2.1⟩ : S25) | 1 => fun x => (⟨x.1, x.2.1⟩ : S30) | 2 => fun x => (⟨(⟨x.1, x.2.1⟩ : S25), x.2.2.1⟩ : S96) | 3 => fun x => (⟨x.1, x.2.1⟩ : S58) | 4 => fun x => (⟨x.1, x.2.1, x.2.2.1, x.2.2.2.1⟩ : S102) | 5 => fun x => (⟨x.1, (⟨x.2.1, x.2.2.1⟩ : S25)⟩ : S80) | _ + 6 => fun _ => ()
  of_to := fun n => match n with | 0 => fun _ => rfl | 1 => fun _ => rfl | 2 => fun _ => rfl | 3 => fun _ => rfl | 4 => fun _ => rfl | 5 => fun _ => rfl | _ + 6 => fun _ => rfl
  to_of := fun n => match n with | 0 => fun _ => rfl | 1 => fun _ => rfl | 2 => fun _ => rfl | 3 => fun _ => rfl | 4 => fun _ => rfl | 5 => fun _ => rfl | _ + 6 => fun _ => rfl
theorem zl_ok : ∀ n, E.to n (E.z n) = zl E (E.fs n) := fun n => match n with | 0 => rfl | 1 => rfl | 2 => rfl | 3 => rfl | 4 => rfl | 5 => rfl | _ + 6 => rfl
def rd25 (xs : List S25) (i : Int) : S25 := xs.getD i.toNat z25
def rd30 (xs : List S30) (i : Int) : S30 := xs.getD i.toNat z30
def rd96 (xs : List S96) (i : Int) : S96 := xs.getD i.toNat z96
def rd58 (xs : List S58) (i : Int) : S58 := xs.getD i.toNat z58
def rd102 (xs : List S102) (i : Int) : S102 := xs.getD i.toNat z102
def rd80 (xs : List S80) (i : Int) : S80 := xs.getD i.toNat z80
def rdI (xs : List Int) (i : Int) : Int := xs.getD i.toNat 0
def rdB (xs : List Bool) (i : Int) : Bool := xs.getD i.toNat false
def rdL {α : Type} (xs : List (List α)) (i : Int) : List α := xs.getD i.toNat []
def by256_793 : ByteArray := ⟨#[0, 1, 2, 2, 3, 3, 3, 3, 4, 4, 4, 4, 4, 4, 4, 4, 5, 5, 5, 5, 5, 5, 5, 5, 5, 5, 5, 5, 5, 5, 5, 5, 6, 6, 6, 6, 6, 6, 6, 6, 6, 6, 6, 6, 6, 6, 6, 6, 6, 6, 6, 6, 6, 6, 6, 6, 6, 6, 6, 6, 6, 6, 6, 6, 7, 7, 7, 7, 7, 7, 7, 7, 7, 7, 7, 7, 7, 7, 7, 7, 7, 7, 7, 7, 7, 7, 7, 7, 7, 7, 7, 7, 7, 7, 7, 7, 7, 7, 7, 7, 7, 7, 7, 7, 7, 7, 7, 7, 7, 7, 7, 7, 7, 7, 7, 7, 7, 7, 7, 7, 7, 7, 7, 7, 7, 7, 7, 7, 8, 8, 8, 8, 8, 8, 8, 8, 8, 8, 8, 8, 8, 8, 8, 8, 8, 8, 8, 8, 8, 8, 8, 8, 8, 8, 8, 8, 8, 8, 8, 8, 8, 8, 8, 8, 8, 8, 8, 8, 8, 8, 8, 8, 8, 8, 8, 8, 8, 8, 8, 8, 8, 8, 8, 8, 8, 8, 8, 8, 8, 8, 8, 8, 8, 8, 8, 8, 8, 8, 8, 8, 8, 8, 8, 8, 8, 8, 8, 8, 8, 8, 8, 8, 8, 8, 8, 8, 8, 8, 8, 8, 8, 8, 8, 8, 8, 8, 8, 8, 8, 8, 8, 8, 8, 8, 8, 8, 8, 8, 8, 8, 8, 8, 8, 8, 8, 8, 8, 8, 8, 8, 8, 8, 8, 8, 8, 8]⟩
def tab : Tab := ⟨[(3, .int .i64), (4, .bool), (5, .int .u8), (22, .slice (.st 0)), (23, .int .u64), (25, .st 0), (27, .slice (.st 1)), (30, .st 1), (43, .slice .bool), (49, .int .i64), (58, .st 3), (59, .ptr (.st 4)), (67, .arr 2 (.st 0)), (74, .int .u64), (77, .slice (.int .i64)), (80, .st 5), (94, .slice (.st 2)), (96, .st 2), (102, .st 4), (109, .slice (.int .u64)), (121, .int .i64)], [(25, 0, 0, 23), (25, 1, 1, 23), (30, 0, 0, 23), (30, 1, 1, 23), (58, 0, 0, 3), (58, 1, 1, 22), (80, 0, 0, 22), (80, 1, 1, 25), (96, 0, 0, 25), (96, 1, 2, 43), (102, 0, 0, 3), (102, 1, 1, 22), (102, 2, 2, 22), (102, 3, 3, 22)], [(22, 16), (27, 16), (43, 1), (77, 8), (94, 40), (109, 8)], [(25, 2), (30, 2)], [9]⟩
theorem tab_ok : tab.chk E Try.prog = true := by kernel_rfl
theorem tie (calls : Nat → Option (Sig E.toTys)) : Tie (XR E) Try.prog (tab.ctx calls) := tie_of zl_ok tab_ok calls
end Go.Proofs.Ytohlooljopjmjaa.B
namespace Go.Proofs.Ytohlooljopjmjaa.B
open Go.Proofs.Ytohlooljopjmjaa.V.B Go.RowKit
set_option linter.unusedVariables false
/-! ### steeple/steeplelaw04.few: function 53 -/
def steeplelaw04_few.l3 : Nat → List Int → Int → List S25 → Option (List S25)
  | 0, _, _, _ => none
  | k + 1, x0, x1, x2 => if x1 < (x0.length : Int) then (if 0 ≤ x1 then (if x1 < (x0.length : Int) then (if x2.length + [(⟨0, rdI x0 x1⟩ : S25)].length ≤ 140737488355328 / 16 then steeplelaw04_few.l3 k x0 (wrap64 (x1 + 1)) (x2 ++ [(⟨0, rdI x0 x1⟩ : S25)]) else none) else none) else none) else some x2
def steeplelaw04_few.f (k : Nat) (a0 : List Int) : Option (List S25) := steeplelaw04_few.l3 k a0 0 []
def steeplelaw04_few.sig (k : Nat) : Sig E.toTys := ⟨[.slice (.int .u64)], [(true, .slice (.st 0))], none, fun x => f k x.1⟩
noncomputable def steeplelaw04_few.body : Code := Try.f53.body.getD .skip
def steeplelaw04_few.calls (k : Nat) : List (Nat × Sig E.toTys) := []
def steeplelaw04_few.cuts : List (Cut E (RT E.toTys [(true, .slice (.st 0))])) := [⟨true, 3, ⟨cat [.one (.val (.slice (.int .u64)))] (cat (ds 2) (cat [.one (.ref 0), .one (.val (.int .i64))] (ds 15))), [.arr (.st 0)], false⟩, fun k x => steeplelaw04_few.l3 k x.1.1 x.1.2.1 x.2.1⟩]
theorem steeplelaw04_few.ok (k : Nat) : Okf (XR E) Try.prog 53 (steeplelaw04_few.sig k) := ⟨fn_ok (C := fun k => tab.ctx fun f => lk f (steeplelaw04_few.calls k)) (fun k => tie _) k (fun j hj => calls_ok (kn)) 400 Try.func53 (body := steeplelaw04_few.body) (res := [.tmp 2]) rfl (by kernel_rfl) steeplelaw04_few.cuts (kc ⟨by kernel_rfl, rfl, fun _ => rfl, fun _ _ => by kernel_rfl⟩ (kn)) (fun x => by kernel_rfl), _, Try.func53, by kernel_rfl, by kernel_rfl⟩
/-! ### math/bits.Len64: function 81 -/
mutual
def math_bits_Len64.j7 : Nat → Int → Int → Option Int
  | 0, _, _ => none
  | k + 1, x0, x1 => if x0 ≥ 256 then math_bits_Len64.j10 k (shr .u64 x0 8) (wrap64 (x1 + 8)) else math_bits_Len64.j10 k x0 x1
def math_bits_Len64.j10 : Nat → Int → Int → Option Int
  | 0, _, _ => none
  | k + 1, x0, x1 => if 0 ≤ IntKind.u8.wrap x0 then (if IntKind.u8.wrap x0 < (ByteArray.size by256_793 : Int) then some (wrap64 (x1 + (wrap64 (bt by256_793 (IntKind.u8.wrap x0))))) else none) else none
end
def math_bits_Len64.f (k : Nat) (a0 : Int) : Option Int := if a0 ≥ 4294967296 then (if shr .u64 a0 32 ≥ 65536 then math_bits_Len64.j7 k (shr .u64 (shr .u64 a0 32) 16) (wrap64 ((32 : Int) + 16)) else math_bits_Len64.j7 k (shr .u64 a0 32) 32) else if a0 ≥ 65536 then math_bits_Len64.j7 k (shr .u64 a0 16) (wrap64 ((0 : Int) + 16)) else math_bits_Len64.j7 k a0 0
def math_bits_Len64.sig (k : Nat) : Sig E.toTys := ⟨[.int .u64], [(false, .int .i64)], none, fun x => f k x.1⟩
noncomputable def math_bits_Len64.body : Code := Try.f81.body.getD .skip
def math_bits_Len64.calls (k : Nat) : List (Nat × Sig E.toTys) := []
def math_bits_Len64.cuts : List (Cut E (RT E.toTys [(false, .int .i64)])) := [⟨false, 7, ⟨cat [.one (.val (.int .u64))] (cat (ds 1) (cat [.one (.val (.int .i64))] (ds 22))), [], false⟩, fun k x => math_bits_Len64.j7 k x.1.1 x.1.2.1⟩,
  ⟨false, 10, ⟨cat [.one (.val (.int .u64))] (cat (ds 1) (cat [.one (.val (.int .i64))] (ds 22))), [], false⟩, fun k x => math_bits_Len64.j10 k x.1.1 x.1.2.1⟩]
theorem math_bits_Len64.ok (k : Nat) : Okf (XR E) Try.prog 81 (math_bits_Len64.sig k) := ⟨fn_ok (C := fun k => tab.ctx fun f => lk f (math_bits_Len64.calls k)) (fun k => tie _) k (fun j hj => calls_ok (kn)) 400 Try.func81 (body := math_bits_Len64.body) (res := [.tmp 2]) rfl (by kernel_rfl) math_bits_Len64.cuts (kc ⟨by kernel_rfl, rfl, fun _ => rfl, fun _ _ => by kernel_rfl⟩ (kc ⟨by kernel_rfl, rfl, fun _ => rfl, fun _ _ => by kernel_rfl⟩ (kn))) (fun x => by kernel_rfl), _, Try.func81, by kernel_rfl, by kernel_rfl⟩
/-! ### steeple/span.lead: function 62 -/
def span_lead.f (k : Nat) (a0 : S25) : Option Int := if a0.f0 = 0 then ((math_bits_Len64.f k a0.f1).bind fun r0 => some (wrap64 (r0 - 1))) else (math_bits_Len64.f k a0.f0).bind fun r1 => some (wrap64 (63 + r1))
def span_lead.sig (k : Nat) : Sig E.toTys := ⟨[.st 0], [(false, .int .i64)], none, fun x => f k x.1⟩
noncomputable def span_lead.body : Code := Try.f62.body.getD .skip
def span_lead.calls (k : Nat) : List (Nat × Sig E.toTys) := [(81, math_bits_Len64.sig k)]
def span_lead.cuts : List (Cut E (RT E.toTys [(false, .int .i64)])) := []
theorem span_lead.ok (k : Nat) : Okf (XR E) Try.prog 62 (span_lead.sig k) := ⟨fn_ok (C := fun k => tab.ctx fun f => lk f (span_lead.calls k)) (fun k => tie _) k (fun j hj => calls_ok (kc (math_bits_Len64.ok j) (kn))) 400 Try.func62 (body := span_lead.body) (res := [.tmp 2]) rfl (by kernel_rfl) span_lead.cuts (kn) (fun x => by kernel_rfl), _, Try.func62, by kernel_rfl, by kernel_rfl⟩
/-! ### steeple/span.within$1: function 82 -/
def span_within_1.f (k : Nat) (a0 : S25) (a1 : Option Int) : Option Bool := (span_lead.f k a0).bind fun r0 => (match a1 with | none => none | some r1 => some (decide (r0 ≥ r1)))
def span_within_1.sig (k : Nat) : Sig E.toTys := ⟨[.st 0, .ptr (.int .i64)], [(false, .bool)], none, fun x => f k x.1 x.2.1⟩
noncomputable def span_within_1.body : Code := Try.f82.body.getD .skip
def span_within_1.calls (k : Nat) : List (Nat × Sig E.toTys) := [(62, span_lead.sig k)]
def span_within_1.cuts : List (Cut E (RT E.toTys [(false, .bool)])) := []
theorem span_within_1.ok (k : Nat) : Okf (XR E) Try.prog 82 (span_within_1.sig k) := ⟨fn_ok (C := fun k => tab.ctx fun f => lk f (span_within_1.calls k)) (fun k => tie _) k (fun j hj => calls_ok (kc (span_lead.ok j) (kn))) 400 Try.func82 (body := span_within_1.body) (res := [.tmp 3]) rfl (by kernel_rfl) span_within_1.cuts (kn) (fun x => by kernel_rfl), _, Try.func82, by kernel_rfl, by kernel_rfl⟩
/-! ### slices.IndexFunc: function 86 -/
def slices_IndexFunc86_c82.l2 : Nat → List S25 → Int → Int → Int → Option Int
  | 0, _, _, _, _ => none
  | k + 1, x0, x1, x2, x3 => if x3 < x2 then (if 0 ≤ x3 then (if x3 < (x0.length : Int) then ((span_within_1.f k (rd25 x0 x3) (some x1)).bind fun r0 => if r0 = true then some x3 else slices_IndexFunc86_c82.l2 k x0 x1 x2 (wrap64 (x3 + 1))) else none) else none) else some (-1)
def slices_IndexFunc86_c82.f (k : Nat) (a0 : List S25) (a1 : Int) : Option Int := slices_IndexFunc86_c82.l2 k a0 a1 (a0.length : Int) 0
def slices_IndexFunc86_c82.sig (k : Nat) : Sig E.toTys := ⟨[.slice (.st 0), .ext 82 (.int .i64)], [(false, .int .i64)], none, fun x => f k x.1 x.2.1⟩
noncomputable def slices_IndexFunc86_c82.body : Code := Try.f86.body.getD .skip
def slices_IndexFunc86_c82.calls (k : Nat) : List (Nat × Sig E.toTys) := [(82, span_within_1.sig k)]
def slices_IndexFunc86_c82.cuts : List (Cut E (RT E.toTys [(false, .int .i64)])) := [⟨true, 2, ⟨cat [.one (.val (.slice (.st 0))), .one (.val (.ext 82 (.int .i64)))] (cat (ds 5) (cat [.one (.val (.int .i64)), .one (.val (.int .i64))] (ds 10))), [], false⟩, fun k x => slices_IndexFunc86_c82.l2 k x.1.1 x.1.2.1 x.1.2.2.1 x.1.2.2.2.1⟩]
theorem slices_IndexFunc86_c82.ok (k : Nat) : Okf (XR E) Try.prog 86 (slices_IndexFunc86_c82.sig k) := ⟨fn_ok (C := fun k => tab.ctx fun f => lk f (slices_IndexFunc86_c82.calls k)) (fun k => tie _) k (fun j hj => calls_ok (kc (span_within_1.ok j) (kn))) 400 Try.func86 (body := slices_IndexFunc86_c82.body) (res := [.tmp 4]) rfl (by kernel_rfl) slices_IndexFunc86_c82.cuts (kc ⟨by kernel_rfl, rfl, fun _ => rfl, fun _ _ => by kernel_rfl⟩ (kn)) (fun x => by kernel_rfl), _, Try.func86, by kernel_rfl, by kernel_rfl⟩
/-! ### slices.ContainsFunc: function 74 -/
def slices_ContainsFunc74_c82.f (k : Nat) (a0 : List S25) (a1 : Int) : Option Bool := (slices_IndexFunc86_c82.f k a0 a1).bind fun r0 => some (decide (r0 ≥ 0))
def slices_ContainsFunc74_c82.sig (k : Nat) : Sig E.toTys := ⟨[.slice (.st 0), .ext 82 (.int .i64)], [(false, .bool)], none, fun x => f k x.1 x.2.1⟩
noncomputable def slices_ContainsFunc74_c82.body : Code := Try.f74.body.getD .skip
def slices_ContainsFunc74_c82.calls (k : Nat) : List (Nat × Sig E.toTys) := [(86, slices_IndexFunc86_c82.sig k)]
def slices_ContainsFunc74_c82.cuts : List (Cut E (RT E.toTys [(false, .bool)])) := []
theorem slices_ContainsFunc74_c82.ok (k : Nat) : Okf (XR E) Try.prog 74 (slices_ContainsFunc74_c82.sig k) := ⟨fn_ok (C := fun k => tab.ctx fun f => lk f (slices_ContainsFunc74_c82.calls k)) (fun k => tie _) k (fun j hj => calls_ok (kc (slices_IndexFunc86_c82.ok j) (kn))) 400 Try.func74 (body := slices_ContainsFunc74_c82.body) (res := [.tmp 4]) rfl (by kernel_rfl) slices_ContainsFunc74_c82.cuts (kn) (fun x => by kernel_rfl), _, Try.func74, by kernel_rfl, by kernel_rfl⟩
/-! ### steeple/span.within: function 64 -/
def span_within.f (k : Nat) (a0 : List S25) (a1 : Int) : Option Bool := (slices_ContainsFunc74_c82.f k a0 a1).bind fun r0 => some (!r0)
def span_within.sig (k : Nat) : Sig E.toTys := ⟨[.slice (.st 0), .int .i64], [(false, .bool)], none, fun x => f k x.1 x.2.1⟩
noncomputable def span_within.body : Code := Try.f64.body.getD .skip
def span_within.calls (k : Nat) : List (Nat × Sig E.toTys) := [(74, slices_ContainsFunc74_c82.sig k)]
def span_within.cuts : List (Cut E (RT E.toTys [(false, .bool)])) := []
theorem span_within.ok (k : Nat) : Okf (XR E) Try.prog 64 (span_within.sig k) := ⟨fn_ok (C := fun k => tab.ctx fun f => lk f (span_within.calls k)) (fun k => tie _) k (fun j hj => calls_ok (kc (slices_ContainsFunc74_c82.ok j) (kn))) 400 Try.func64 (body := span_within.body) (res := [.tmp 4]) rfl (by kernel_rfl) span_within.cuts (kn) (fun x => by kernel_rfl), _, Try.func64, by kernel_rfl, by kernel_rfl⟩
/-! ### steeple/tower.Bit: function 32 -/
mutual
def tower_Bit.j3 : Nat → Int → Int → Int → Option S25
  | 0, _, _, _ => none
  | k + 1, x0, x1, x2 => if x0 ≥ 64 then (if x0 < 128 then (if 0 ≤ wrap64 (x0 - 64) then some (⟨shl .u64 1 (wrap64 (x0 - 64)), 0⟩ : S25) else none) else tower_Bit.j5 k x1 x2) else tower_Bit.j5 k x1 x2
def tower_Bit.j5 : Nat → Int → Int → Option S25
  | 0, _, _ => none
  | k + 1, _, _ => some (⟨0, 0⟩ : S25)
end
def tower_Bit.f (k : Nat) (a0 : Int) : Option S25 := if a0 ≥ 0 then (if a0 < 64 then (if 0 ≤ a0 then some (⟨0, shl .u64 1 a0⟩ : S25) else none) else tower_Bit.j3 k a0 0 0) else tower_Bit.j3 k a0 0 0
def tower_Bit.sig (k : Nat) : Sig E.toTys := ⟨[.int .i64], [(false, .st 0)], none, fun x => f k x.1⟩
noncomputable def tower_Bit.body : Code := Try.f32.body.getD .skip
def tower_Bit.calls (k : Nat) : List (Nat × Sig E.toTys) := []
def tower_Bit.cuts : List (Cut E (RT E.toTys [(false, .st 0)])) := [⟨false, 3, ⟨cat [.one (.val (.int .i64))] (cat (ds 1) (cat [.one (.ptr 0 0)] (ds 22))), [.var [.val (.int .u64), .val (.int .u64)]], false⟩, fun k x => tower_Bit.j3 k x.1.1 x.2.1.1 x.2.1.2.1⟩,
  ⟨false, 5, ⟨cat (ds 2) (cat [.one (.ptr 0 0)] (ds 22)), [.var [.val (.int .u64), .val (.int .u64)]], false⟩, fun k x => tower_Bit.j5 k x.2.1.1 x.2.1.2.1⟩]
theorem tower_Bit.ok (k : Nat) : Okf (XR E) Try.prog 32 (tower_Bit.sig k) := ⟨fn_ok (C := fun k => tab.ctx fun f => lk f (tower_Bit.calls k)) (fun k => tie _) k (fun j hj => calls_ok (kn)) 400 Try.func32 (body := tower_Bit.body) (res := [.cell 2 25]) rfl (by kernel_rfl) tower_Bit.cuts (kc ⟨by kernel_rfl, rfl, fun _ => rfl, fun _ _ => by kernel_rfl⟩ (kc ⟨by kernel_rfl, rfl, fun _ => rfl, fun _ _ => by kernel_rfl⟩ (kn))) (fun x => by kernel_rfl), _, Try.func32, by kernel_rfl, by kernel_rfl⟩
/-! ### steeple/span.has: function 61 -/
def span_has.f (k : Nat) (a0 : S25) (a1 : Int) : Option Bool := (tower_Bit.f k a1).bind fun r0 => some (!decide (bits .or .u64 (bits .and .u64 a0.f1 r0.f1) (bits .and .u64 a0.f0 r0.f0) = 0))
def span_has.sig (k : Nat) : Sig E.toTys := ⟨[.st 0, .int .i64], [(false, .bool)], none, fun x => f k x.1 x.2.1⟩
noncomputable def span_has.body : Code := Try.f61.body.getD .skip
def span_has.calls (k : Nat) : List (Nat × Sig E.toTys) := [(32, tower_Bit.sig k)]
def span_has.cuts : List (Cut E (RT E.toTys [(false, .bool)])) := []
theorem span_has.ok (k : Nat) : Okf (XR E) Try.prog 61 (span_has.sig k) := ⟨fn_ok (C := fun k => tab.ctx fun f => lk f (span_has.calls k)) (fun k => tie _) k (fun j hj => calls_ok (kc (tower_Bit.ok j) (kn))) 400 Try.func61 (body := span_has.body) (res := [.tmp 4]) rfl (by kernel_rfl) span_has.cuts (kn) (fun x => by kernel_rfl), _, Try.func61, by kernel_rfl, by kernel_rfl⟩
/-! ### steeple/tower.Add: function 28 -/
def tower_Add.f (k : Nat) (a0 : S25) (a1 : S25) : Option S25 := some (⟨bits .xor .u64 a0.f0 a1.f0, bits .xor .u64 a0.f1 a1.f1⟩ : S25)
def tower_Add.sig (k : Nat) : Sig E.toTys := ⟨[.st 0, .st 0], [(false, .st 0)], none, fun x => f k x.1 x.2.1⟩
noncomputable def tower_Add.body : Code := Try.f28.body.getD .skip
def tower_Add.calls (k : Nat) : List (Nat × Sig E.toTys) := []
def tower_Add.cuts : List (Cut E (RT E.toTys [(false, .st 0)])) := []
theorem tower_Add.ok (k : Nat) : Okf (XR E) Try.prog 28 (tower_Add.sig k) := ⟨fn_ok (C := fun k => tab.ctx fun f => lk f (tower_Add.calls k)) (fun k => tie _) k (fun j hj => calls_ok (kn)) 400 Try.func28 (body := tower_Add.body) (res := [.cell 4 25]) rfl (by kernel_rfl) tower_Add.cuts (kn) (fun x => by kernel_rfl), _, Try.func28, by kernel_rfl, by kernel_rfl⟩
/-! ### steeple/span.Turn: function 52 -/
mutual
def span_Turn.l7 : Nat → Int → List S25 → Int → Int → List S25 → Option ((List S25) × Int)
  | 0, _, _, _, _, _ => none
  | k + 1, x0, x1, x2, x3, x4 => if x3 < x2 then (if 0 ≤ x3 then (if x3 < (x1.length : Int) then span_Turn.l10 k x0 x3 x1 x2 x3 x0 0 x4 (rd25 x1 x3).f0 (rd25 x1 x3).f1 else none) else none) else some (x4, 0)
def span_Turn.l10 : Nat → Int → Int → List S25 → Int → Int → Int → Int → List S25 → Int → Int → Option ((List S25) × Int)
  | 0, _, _, _, _, _, _, _, _, _, _ => none
  | k + 1, x0, x1, x2, x3, x4, x5, x6, x7, x8, x9 => if x6 < x5 then ((span_has.f k (⟨x8, x9⟩ : S25) x6).bind fun r1 => if r1 = true then (if 0 ≤ x6 then (if x6 < (x7.length : Int) then ((tower_Bit.f k x1).bind fun r2 => (tower_Add.f k (rd25 x7 x6) r2).bind fun r3 => if 0 ≤ x6 then (if x6 < (x7.length : Int) then span_Turn.l10 k x0 x1 x2 x3 x4 x5 (wrap64 (x6 + 1)) (x7.set (Int.toNat x6) r3) x8 x9 else none) else none) else none) else none) else span_Turn.l10 k x0 x1 x2 x3 x4 x5 (wrap64 (x6 + 1)) x7 x8 x9) else span_Turn.l7 k x0 x2 x3 (wrap64 (x4 + 1)) x7
end
def span_Turn.f (k : Nat) (a0 : List S25) (a1 : Int) : Option ((List S25) × Int) := if (a0.length : Int) > 128 then some ([], 1) else if a1 < 0 then some ([], 1) else if a1 > 128 then some ([], 1) else (span_within.f k a0 a1).bind fun r0 => if (!r0) = true then some ([], 6) else if 0 ≤ a1 then (if a1 ≤ 140737488355328 / ((16 : Nat) : Int) then span_Turn.l7 k a1 a0 (a0.length : Int) 0 (List.replicate (Int.toNat a1) z25) else none) else none
def span_Turn.sig (k : Nat) : Sig E.toTys := ⟨[.slice (.st 0), .int .i64], [(true, .slice (.st 0)), (false, .int .i64)], none, fun x => f k x.1 x.2.1⟩
noncomputable def span_Turn.body : Code := Try.f52.body.getD .skip
def span_Turn.calls (k : Nat) : List (Nat × Sig E.toTys) := [(64, span_within.sig k), (61, span_has.sig k), (32, tower_Bit.sig k), (28, tower_Add.sig k)]
def span_Turn.cuts : List (Cut E (RT E.toTys [(true, .slice (.st 0)), (false, .int .i64)])) := [⟨true, 7, ⟨cat (ds 1) (cat [.one (.val (.int .i64))] (cat (ds 4) (cat [.one (.ref 0)] (cat (ds 22) (cat [.one (.val (.slice (.st 0))), .one (.val (.int .i64)), .one (.val (.int .i64))] (ds 24)))))), [.arr (.st 0)], false⟩, fun k x => span_Turn.l7 k x.1.1 x.1.2.1 x.1.2.2.1 x.1.2.2.2.1 x.2.1⟩,
  ⟨true, 10, ⟨cat (ds 1) (cat [.one (.val (.int .i64))] (cat (ds 4) (cat [.one (.ref 0), .one (.val (.int .i64)), .one (.ptr 1 0)] (cat (ds 20) (cat [.one (.val (.slice (.st 0))), .one (.val (.int .i64)), .one (.val (.int .i64))] (cat (ds 4) (cat [.one (.val (.int .i64)), .one (.val (.int .i64))] (ds 18)))))))), [.arr (.st 0), .var [.val (.int .u64), .val (.int .u64)]], false⟩, fun k x => span_Turn.l10 k x.1.1 x.1.2.1 x.1.2.2.1 x.1.2.2.2.1 x.1.2.2.2.2.1 x.1.2.2.2.2.2.1 x.1.2.2.2.2.2.2.1 x.2.1 x.2.2.1.1 x.2.2.1.2.1⟩]
theorem span_Turn.ok (k : Nat) : Okf (XR E) Try.prog 52 (span_Turn.sig k) := ⟨fn_ok (C := fun k => tab.ctx fun f => lk f (span_Turn.calls k)) (fun k => tie _) k (fun j hj => calls_ok (kc (span_within.ok j) (kc (span_has.ok j) (kc (tower_Bit.ok j) (kc (tower_Add.ok j) (kn)))))) 400 Try.func52 (body := span_Turn.body) (res := [.tmp 4, .tmp 5]) rfl (by kernel_rfl) span_Turn.cuts (kc ⟨by kernel_rfl, rfl, fun _ => rfl, fun _ _ => by kernel_rfl⟩ (kc ⟨by kernel_rfl, rfl, fun _ => rfl, fun _ _ => by kernel_rfl⟩ (kn))) (fun x => by kernel_rfl), _, Try.func52, by kernel_rfl, by kernel_rfl⟩
/-! ### steeple/span.less: function 57 -/
def span_less.l2 : Nat → List S25 → Int → Int → Int → Int → Int → Int → Option S25
  | 0, _, _, _, _, _, _, _ => none
  | k + 1, x0, x1, x2, x3, x4, x5, x6 => if x2 < x1 then (if 0 ≤ x2 then (if x2 < (x0.length : Int) then ((span_lead.f k (rd25 x0 x2)).bind fun r0 => (span_has.f k (⟨x3, x4⟩ : S25) r0).bind fun r1 => if r1 = true then ((tower_Add.f k (⟨x3, x4⟩ : S25) (rd25 x0 x2)).bind fun r2 => span_less.l2 k x0 x1 (wrap64 (x2 + 1)) r2.f0 r2.f1 x5 x6) else span_less.l2 k x0 x1 (wrap64 (x2 + 1)) x3 x4 x5 x6) else none) else none) else some (⟨x3, x4⟩ : S25)
def span_less.f (k : Nat) (a0 : List S25) (a1 : S25) : Option S25 := span_less.l2 k a0 (a0.length : Int) 0 a1.f0 a1.f1 0 0
def span_less.sig (k : Nat) : Sig E.toTys := ⟨[.slice (.st 0), .st 0], [(false, .st 0)], none, fun x => f k x.1 x.2.1⟩
noncomputable def span_less.body : Code := Try.f57.body.getD .skip
def span_less.calls (k : Nat) : List (Nat × Sig E.toTys) := [(62, span_lead.sig k), (61, span_has.sig k), (28, tower_Add.sig k)]
def span_less.cuts : List (Cut E (RT E.toTys [(false, .st 0)])) := [⟨true, 2, ⟨cat (ds 3) (cat [.one (.ptr 0 0), .one (.ptr 1 0)] (cat (ds 2) (cat [.one (.val (.slice (.st 0))), .one (.val (.int .i64)), .one (.val (.int .i64))] (ds 12)))), [.var [.val (.int .u64), .val (.int .u64)], .var [.val (.int .u64), .val (.int .u64)]], false⟩, fun k x => span_less.l2 k x.1.1 x.1.2.1 x.1.2.2.1 x.2.1.1 x.2.1.2.1 x.2.2.1.1 x.2.2.1.2.1⟩]
theorem span_less.ok (k : Nat) : Okf (XR E) Try.prog 57 (span_less.sig k) := ⟨fn_ok (C := fun k => tab.ctx fun f => lk f (span_less.calls k)) (fun k => tie _) k (fun j hj => calls_ok (kc (span_lead.ok j) (kc (span_has.ok j) (kc (tower_Add.ok j) (kn))))) 400 Try.func57 (body := span_less.body) (res := [.cell 4 25]) rfl (by kernel_rfl) span_less.cuts (kc ⟨by kernel_rfl, rfl, fun _ => rfl, fun _ _ => by kernel_rfl⟩ (kn)) (fun x => by kernel_rfl), _, Try.func57, by kernel_rfl, by kernel_rfl⟩
/-! ### steeple/span.put$1: function 80 -/
def span_put_1.f (k : Nat) (a0 : S25) (a1 : S25) : Option Int := (span_lead.f k a1).bind fun r0 => (span_lead.f k a0).bind fun r1 => some (wrap64 (r0 - r1))
def span_put_1.sig (k : Nat) : Sig E.toTys := ⟨[.st 0, .st 0], [(false, .int .i64)], none, fun x => f k x.1 x.2.1⟩
noncomputable def span_put_1.body : Code := Try.f80.body.getD .skip
def span_put_1.calls (k : Nat) : List (Nat × Sig E.toTys) := [(62, span_lead.sig k)]
def span_put_1.cuts : List (Cut E (RT E.toTys [(false, .int .i64)])) := []
theorem span_put_1.ok (k : Nat) : Okf (XR E) Try.prog 80 (span_put_1.sig k) := ⟨fn_ok (C := fun k => tab.ctx fun f => lk f (span_put_1.calls k)) (fun k => tie _) k (fun j hj => calls_ok (kc (span_lead.ok j) (kn))) 400 Try.func80 (body := span_put_1.body) (res := [.tmp 4]) rfl (by kernel_rfl) span_put_1.cuts (kn) (fun x => by kernel_rfl), _, Try.func80, by kernel_rfl, by kernel_rfl⟩
/-! ### math/bits.Len: function 90 -/
def math_bits_Len.f (k : Nat) (a0 : Int) : Option Int := (math_bits_Len64.f k a0).bind fun r0 => some r0
def math_bits_Len.sig (k : Nat) : Sig E.toTys := ⟨[.int .u64], [(false, .int .i64)], none, fun x => f k x.1⟩
noncomputable def math_bits_Len.body : Code := Try.f90.body.getD .skip
def math_bits_Len.calls (k : Nat) : List (Nat × Sig E.toTys) := [(81, math_bits_Len64.sig k)]
def math_bits_Len.cuts : List (Cut E (RT E.toTys [(false, .int .i64)])) := []
theorem math_bits_Len.ok (k : Nat) : Okf (XR E) Try.prog 90 (math_bits_Len.sig k) := ⟨fn_ok (C := fun k => tab.ctx fun f => lk f (math_bits_Len.calls k)) (fun k => tie _) k (fun j hj => calls_ok (kc (math_bits_Len64.ok j) (kn))) 400 Try.func90 (body := math_bits_Len.body) (res := [.tmp 2]) rfl (by kernel_rfl) math_bits_Len.cuts (kn) (fun x => by kernel_rfl), _, Try.func90, by kernel_rfl, by kernel_rfl⟩
/-! ### slices.insertionSortCmpFunc: function 94 -/
mutual
def slices_insertionSortCmpFunc94_c80.l1 : Nat → Int → Int → Unit → Int → List S25 → Option (List S25)
  | 0, _, _, _, _, _ => none
  | k + 1, x0, x1, x2, x3, x4 => if x3 < x1 then slices_insertionSortCmpFunc94_c80.l4 k x0 x1 x2 x3 x3 x4 else some x4
def slices_insertionSortCmpFunc94_c80.l4 : Nat → Int → Int → Unit → Int → Int → List S25 → Option (List S25)
  | 0, _, _, _, _, _, _ => none
  | k + 1, x0, x1, x2, x3, x4, x5 => if x4 > x0 then (if 0 ≤ x4 then (if x4 < (x5.length : Int) then (if 0 ≤ wrap64 (x4 - 1) then (if wrap64 (x4 - 1) < (x5.length : Int) then ((span_put_1.f k (rd25 x5 x4) (rd25 x5 (wrap64 (x4 - 1)))).bind fun r0 => if r0 < 0 then (if 0 ≤ wrap64 (x4 - 1) then (if wrap64 (x4 - 1) < (x5.length : Int) then (if 0 ≤ x4 then (if x4 < (x5.length : Int) then (if 0 ≤ x4 then (if x4 < (x5.length : Int) then (if 0 ≤ wrap64 (x4 - 1) then (if wrap64 (x4 - 1) < ((x5.set (Int.toNat x4) (rd25 x5 (wrap64 (x4 - 1)))).length : Int) then slices_insertionSortCmpFunc94_c80.l4 k x0 x1 x2 x3 (wrap64 (x4 - 1)) ((x5.set (Int.toNat x4) (rd25 x5 (wrap64 (x4 - 1)))).set (Int.toNat (wrap64 (x4 - 1))) (rd25 x5 x4)) else none) else none) else none) else none) else none) else none) else none) else none) else slices_insertionSortCmpFunc94_c80.l1 k x0 x1 x2 (wrap64 (x3 + 1)) x5) else none) else none) else none) else none) else slices_insertionSortCmpFunc94_c80.l1 k x0 x1 x2 (wrap64 (x3 + 1)) x5
end
def slices_insertionSortCmpFunc94_c80.f (k : Nat) (a0 : List S25) (a1 : Int) (a2 : Int) (a3 : Unit) : Option (List S25) := slices_insertionSortCmpFunc94_c80.l1 k a1 a2 a3 (wrap64 (a1 + 1)) a0
def slices_insertionSortCmpFunc94_c80.sig (k : Nat) : Sig E.toTys := ⟨[.slice (.st 0), .int .i64, .int .i64, .fnv 80], [(true, .slice (.st 0))], some 0, fun x => f k x.1 x.2.1 x.2.2.1 x.2.2.2.1⟩
noncomputable def slices_insertionSortCmpFunc94_c80.body : Code := Try.f94.body.getD .skip
def slices_insertionSortCmpFunc94_c80.calls (k : Nat) : List (Nat × Sig E.toTys) := [(80, span_put_1.sig k)]
def slices_insertionSortCmpFunc94_c80.cuts : List (Cut E (RT E.toTys [(true, .slice (.st 0))])) := [⟨true, 1, ⟨cat [.one (.ref 0), .one (.val (.int .i64)), .one (.val (.int .i64)), .one (.val (.fnv 80))] (cat (ds 4) (cat [.one (.val (.int .i64))] (ds 44))), [.arr (.st 0)], true⟩, fun k x => slices_insertionSortCmpFunc94_c80.l1 k x.1.1 x.1.2.1 x.1.2.2.1 x.1.2.2.2.1 x.2.1⟩,
  ⟨true, 4, ⟨cat [.one (.ref 0), .one (.val (.int .i64)), .one (.val (.int .i64)), .one (.val (.fnv 80))] (cat (ds 4) (cat [.one (.val (.int .i64)), .one (.val (.int .i64))] (ds 43))), [.arr (.st 0)], true⟩, fun k x => slices_insertionSortCmpFunc94_c80.l4 k x.1.1 x.1.2.1 x.1.2.2.1 x.1.2.2.2.1 x.1.2.2.2.2.1 x.2.1⟩]
theorem slices_insertionSortCmpFunc94_c80.ok (k : Nat) : Okf (XR E) Try.prog 94 (slices_insertionSortCmpFunc94_c80.sig k) := ⟨fn_okIO (C := fun k => tab.ctx fun f => lk f (slices_insertionSortCmpFunc94_c80.calls k)) (fun k => tie _) k (fun j hj => calls_ok (kc (span_put_1.ok j) (kn))) 400 0 Try.func94 (body := slices_insertionSortCmpFunc94_c80.body) (res := []) rfl (by kernel_rfl) slices_insertionSortCmpFunc94_c80.cuts (kc ⟨by kernel_rfl, rfl, fun _ => rfl, fun _ _ => by kernel_rfl⟩ (kc ⟨by kernel_rfl, rfl, fun _ => rfl, fun _ _ => by kernel_rfl⟩ (kn))) (fun x => by kernel_rfl), _, Try.func94, by kernel_rfl, by kernel_rfl⟩
/-! ### slices.pdqsortCmpFunc: function 89 -/
def slices_pdqsortCmpFunc89_c80.l2 : Nat → Int → Int → Int → Unit → Bool → Bool → List S25 → Option (List S25)
  | 0, _, _, _, _, _, _, _ => none
  | k + 1, x0, x1, x2, x3, x4, _, x6 => if wrap64 (x1 - x0) ≤ 12 then ((slices_insertionSortCmpFunc94_c80.f k x6 x0 x1 x3).bind fun r0 => some r0) else if x2 = 0 then none else if (!x4) = true then none else none
def slices_pdqsortCmpFunc89_c80.f (k : Nat) (a0 : List S25) (a1 : Int) (a2 : Int) (a3 : Int) (a4 : Unit) : Option (List S25) := slices_pdqsortCmpFunc89_c80.l2 k a1 a2 a3 a4 true true a0
def slices_pdqsortCmpFunc89_c80.sig (k : Nat) : Sig E.toTys := ⟨[.slice (.st 0), .int .i64, .int .i64, .int .i64, .fnv 80], [(true, .slice (.st 0))], some 0, fun x => f k x.1 x.2.1 x.2.2.1 x.2.2.2.1 x.2.2.2.2.1⟩
noncomputable def slices_pdqsortCmpFunc89_c80.body : Code := Try.f89.body.getD .skip
def slices_pdqsortCmpFunc89_c80.calls (k : Nat) : List (Nat × Sig E.toTys) := [(94, slices_insertionSortCmpFunc94_c80.sig k)]
def slices_pdqsortCmpFunc89_c80.cuts : List (Cut E (RT E.toTys [(true, .slice (.st 0))])) := [⟨true, 2, ⟨cat [.one (.ref 0), .one (.val (.int .i64)), .one (.val (.int .i64)), .one (.val (.int .i64)), .one (.val (.fnv 80))] (cat (ds 5) (cat [.one (.val (.bool)), .one (.val (.bool))] (ds 136))), [.arr (.st 0)], true⟩, fun k x => slices_pdqsortCmpFunc89_c80.l2 k x.1.1 x.1.2.1 x.1.2.2.1 x.1.2.2.2.1 x.1.2.2.2.2.1 x.1.2.2.2.2.2.1 x.2.1⟩]
theorem slices_pdqsortCmpFunc89_c80.ok (k : Nat) : Okf (XR E) Try.prog 89 (slices_pdqsortCmpFunc89_c80.sig k) := ⟨fn_okIO (C := fun k => tab.ctx fun f => lk f (slices_pdqsortCmpFunc89_c80.calls k)) (fun k => tie _) k (fun j hj => calls_ok (kc (slices_insertionSortCmpFunc94_c80.ok j) (kn))) 400 0 Try.func89 (body := slices_pdqsortCmpFunc89_c80.body) (res := []) rfl (by kernel_rfl) slices_pdqsortCmpFunc89_c80.cuts (kc ⟨by kernel_rfl, rfl, fun _ => rfl, fun _ _ => by kernel_rfl⟩ (kn)) (fun x => by kernel_rfl), _, Try.func89, by kernel_rfl, by kernel_rfl⟩
/-! ### slices.SortFunc: function 79 -/
def slices_SortFunc79_c80.f (k : Nat) (a0 : List S25) (a1 : Unit) : Option (List S25) := (math_bits_Len.f k (IntKind.u64.wrap (a0.length : Int))).bind fun r0 => (slices_pdqsortCmpFunc89_c80.f k a0 0 (a0.length : Int) r0 a1).bind fun r1 => some r1
def slices_SortFunc79_c80.sig (k : Nat) : Sig E.toTys := ⟨[.slice (.st 0), .fnv 80], [(true, .slice (.st 0))], some 0, fun x => f k x.1 x.2.1⟩
noncomputable def slices_SortFunc79_c80.body : Code := Try.f79.body.getD .skip
def slices_SortFunc79_c80.calls (k : Nat) : List (Nat × Sig E.toTys) := [(90, math_bits_Len.sig k), (89, slices_pdqsortCmpFunc89_c80.sig k)]
def slices_SortFunc79_c80.cuts : List (Cut E (RT E.toTys [(true, .slice (.st 0))])) := []
theorem slices_SortFunc79_c80.ok (k : Nat) : Okf (XR E) Try.prog 79 (slices_SortFunc79_c80.sig k) := ⟨fn_okIO (C := fun k => tab.ctx fun f => lk f (slices_SortFunc79_c80.calls k)) (fun k => tie _) k (fun j hj => calls_ok (kc (math_bits_Len.ok j) (kc (slices_pdqsortCmpFunc89_c80.ok j) (kn)))) 400 0 Try.func79 (body := slices_SortFunc79_c80.body) (res := []) rfl (by kernel_rfl) slices_SortFunc79_c80.cuts (kn) (fun x => by kernel_rfl), _, Try.func79, by kernel_rfl, by kernel_rfl⟩
/-! ### steeple/span.put: function 56 -/
def span_put.l6 : Nat → List S25 → Int → Int → Int → Int → List S25 → Option (List S25)
  | 0, _, _, _, _, _, _ => none
  | k + 1, x0, x1, x2, x3, x4, x5 => if x2 < x1 then (if 0 ≤ x2 then (if x2 < (x0.length : Int) then ((span_lead.f k (⟨x3, x4⟩ : S25)).bind fun r1 => (span_has.f k (rd25 x0 x2) r1).bind fun r2 => if r2 = true then ((tower_Add.f k (rd25 x0 x2) (⟨x3, x4⟩ : S25)).bind fun r3 => if x5.length + [r3].length ≤ 140737488355328 / 16 then span_put.l6 k x0 x1 (wrap64 (x2 + 1)) x3 x4 (x5 ++ [r3]) else none) else if x5.length + [rd25 x0 x2].length ≤ 140737488355328 / 16 then span_put.l6 k x0 x1 (wrap64 (x2 + 1)) x3 x4 (x5 ++ [rd25 x0 x2]) else none) else none) else none) else if x5.length + [(⟨x3, x4⟩ : S25)].length ≤ 140737488355328 / 16 then ((slices_SortFunc79_c80.f k (x5 ++ [(⟨x3, x4⟩ : S25)]) ()).bind fun r4 => some r4) else none
def span_put.f (k : Nat) (a0 : List S25) (a1 : S25) : Option (List S25) := (span_less.f k a0 a1).bind fun r0 => if r0.f0 = 0 ∧ r0.f1 = 0 then some a0 else span_put.l6 k a0 (a0.length : Int) 0 r0.f0 r0.f1 []
def span_put.sig (k : Nat) : Sig E.toTys := ⟨[.slice (.st 0), .st 0], [(false, .slice (.st 0))], none, fun x => f k x.1 x.2.1⟩
noncomputable def span_put.body : Code := Try.f56.body.getD .skip
def span_put.calls (k : Nat) : List (Nat × Sig E.toTys) := [(57, span_less.sig k), (62, span_lead.sig k), (61, span_has.sig k), (28, tower_Add.sig k), (79, slices_SortFunc79_c80.sig k)]
def span_put.cuts : List (Cut E (RT E.toTys [(false, .slice (.st 0))])) := [⟨true, 6, ⟨cat (ds 3) (cat [.one (.ptr 0 0)] (cat (ds 1) (cat [.one (.ref 1)] (cat (ds 9) (cat [.one (.val (.slice (.st 0))), .one (.val (.int .i64)), .one (.val (.int .i64))] (ds 22)))))), [.var [.val (.int .u64), .val (.int .u64)], .arr (.st 0)], false⟩, fun k x => span_put.l6 k x.1.1 x.1.2.1 x.1.2.2.1 x.2.1.1 x.2.1.2.1 x.2.2.1⟩]
theorem span_put.ok (k : Nat) : Okf (XR E) Try.prog 56 (span_put.sig k) := ⟨fn_ok (C := fun k => tab.ctx fun f => lk f (span_put.calls k)) (fun k => tie _) k (fun j hj => calls_ok (kc (span_less.ok j) (kc (span_lead.ok j) (kc (span_has.ok j) (kc (tower_Add.ok j) (kc (slices_SortFunc79_c80.ok j) (kn))))))) 400 Try.func56 (body := span_put.body) (res := [.tmp 4]) rfl (by kernel_rfl) span_put.cuts (kc ⟨by kernel_rfl, rfl, fun _ => rfl, fun _ _ => by kernel_rfl⟩ (kn)) (fun x => by kernel_rfl), _, Try.func56, by kernel_rfl, by kernel_rfl⟩
/-! ### steeple/span.Basis: function 17 -/
def span_Basis.l3 : Nat → List S25 → List S25 → Int → Int → Option (List S25)
  | 0, _, _, _, _ => none
  | k + 1, x0, x1, x2, x3 => if x3 < x2 then (if 0 ≤ x3 then (if x3 < (x1.length : Int) then ((span_put.f k x0 (rd25 x1 x3)).bind fun r0 => span_Basis.l3 k r0 x1 x2 (wrap64 (x3 + 1))) else none) else none) else some x0
def span_Basis.f (k : Nat) (a0 : List S25) : Option (List S25) := span_Basis.l3 k [] a0 (a0.length : Int) 0
def span_Basis.sig (k : Nat) : Sig E.toTys := ⟨[.slice (.st 0)], [(false, .slice (.st 0))], none, fun x => f k x.1⟩
noncomputable def span_Basis.body : Code := Try.f17.body.getD .skip
def span_Basis.calls (k : Nat) : List (Nat × Sig E.toTys) := [(56, span_put.sig k)]
def span_Basis.cuts : List (Cut E (RT E.toTys [(false, .slice (.st 0))])) := [⟨true, 3, ⟨cat (ds 3) (cat [.one (.val (.slice (.st 0)))] (cat (ds 2) (cat [.one (.val (.slice (.st 0))), .one (.val (.int .i64)), .one (.val (.int .i64))] (ds 8)))), [], false⟩, fun k x => span_Basis.l3 k x.1.1 x.1.2.1 x.1.2.2.1 x.1.2.2.2.1⟩]
theorem span_Basis.ok (k : Nat) : Okf (XR E) Try.prog 17 (span_Basis.sig k) := ⟨fn_ok (C := fun k => tab.ctx fun f => lk f (span_Basis.calls k)) (fun k => tie _) k (fun j hj => calls_ok (kc (span_put.ok j) (kn))) 400 Try.func17 (body := span_Basis.body) (res := [.tmp 2]) rfl (by kernel_rfl) span_Basis.cuts (kc ⟨by kernel_rfl, rfl, fun _ => rfl, fun _ _ => by kernel_rfl⟩ (kn)) (fun x => by kernel_rfl), _, Try.func17, by kernel_rfl, by kernel_rfl⟩
/-! ### steeple/steeplelaw01.Ref: function 15 -/
def steeplelaw01_Ref.l3 : Nat → List S25 → Int → List S30 → Option (List S30)
  | 0, _, _, _ => none
  | k + 1, x0, x1, x2 => if x1 < (x0.length : Int) then (if 0 ≤ x1 then (if x1 < (x0.length : Int) then (if x2.length + [(⟨(rd25 x0 x1).f0, (rd25 x0 x1).f1⟩ : S30)].length ≤ 140737488355328 / 16 then steeplelaw01_Ref.l3 k x0 (wrap64 (x1 + 1)) (x2 ++ [(⟨(rd25 x0 x1).f0, (rd25 x0 x1).f1⟩ : S30)]) else none) else none) else none) else some x2
def steeplelaw01_Ref.f (k : Nat) (a0 : List S25) : Option (List S30) := steeplelaw01_Ref.l3 k a0 0 []
def steeplelaw01_Ref.sig (k : Nat) : Sig E.toTys := ⟨[.slice (.st 0)], [(true, .slice (.st 1))], none, fun x => f k x.1⟩
noncomputable def steeplelaw01_Ref.body : Code := Try.f15.body.getD .skip
def steeplelaw01_Ref.calls (k : Nat) : List (Nat × Sig E.toTys) := []
def steeplelaw01_Ref.cuts : List (Cut E (RT E.toTys [(true, .slice (.st 1))])) := [⟨true, 3, ⟨cat [.one (.val (.slice (.st 0)))] (cat (ds 2) (cat [.one (.ref 0), .one (.val (.int .i64))] (ds 14))), [.arr (.st 1)], false⟩, fun k x => steeplelaw01_Ref.l3 k x.1.1 x.1.2.1 x.2.1⟩]
theorem steeplelaw01_Ref.ok (k : Nat) : Okf (XR E) Try.prog 15 (steeplelaw01_Ref.sig k) := ⟨fn_ok (C := fun k => tab.ctx fun f => lk f (steeplelaw01_Ref.calls k)) (fun k => tie _) k (fun j hj => calls_ok (kn)) 400 Try.func15 (body := steeplelaw01_Ref.body) (res := [.tmp 2]) rfl (by kernel_rfl) steeplelaw01_Ref.cuts (kc ⟨by kernel_rfl, rfl, fun _ => rfl, fun _ _ => by kernel_rfl⟩ (kn)) (fun x => by kernel_rfl), _, Try.func15, by kernel_rfl, by kernel_rfl⟩
/-! ### steeple/steeplelaw01.Same: function 16 -/
def steeplelaw01_Same.l4 : Nat → List S25 → List S30 → Int → Option Bool
  | 0, _, _, _ => none
  | k + 1, x0, x1, x2 => if x2 < (x0.length : Int) then (if 0 ≤ x2 then (if x2 < (x0.length : Int) then (if 0 ≤ x2 then (if x2 < (x1.length : Int) then (if (rd25 x0 x2).f0 = (rd30 x1 x2).f0 ∧ (rd25 x0 x2).f1 = (rd30 x1 x2).f1 then steeplelaw01_Same.l4 k x0 x1 (wrap64 (x2 + 1)) else some false) else none) else none) else none) else none) else some true
def steeplelaw01_Same.f (k : Nat) (a0 : List S25) (a1 : List S30) : Option Bool := if (a0.length : Int) = (a1.length : Int) then steeplelaw01_Same.l4 k a0 a1 0 else some false
def steeplelaw01_Same.sig (k : Nat) : Sig E.toTys := ⟨[.slice (.st 0), .slice (.st 1)], [(false, .bool)], none, fun x => f k x.1 x.2.1⟩
noncomputable def steeplelaw01_Same.body : Code := Try.f16.body.getD .skip
def steeplelaw01_Same.calls (k : Nat) : List (Nat × Sig E.toTys) := []
def steeplelaw01_Same.cuts : List (Cut E (RT E.toTys [(false, .bool)])) := [⟨true, 4, ⟨cat [.one (.val (.slice (.st 0))), .one (.val (.slice (.st 1)))] (cat (ds 3) (cat [.one (.val (.int .i64))] (ds 20))), [], false⟩, fun k x => steeplelaw01_Same.l4 k x.1.1 x.1.2.1 x.1.2.2.1⟩]
theorem steeplelaw01_Same.ok (k : Nat) : Okf (XR E) Try.prog 16 (steeplelaw01_Same.sig k) := ⟨fn_ok (C := fun k => tab.ctx fun f => lk f (steeplelaw01_Same.calls k)) (fun k => tie _) k (fun j hj => calls_ok (kn)) 400 Try.func16 (body := steeplelaw01_Same.body) (res := [.tmp 4]) rfl (by kernel_rfl) steeplelaw01_Same.cuts (kc ⟨by kernel_rfl, rfl, fun _ => rfl, fun _ _ => by kernel_rfl⟩ (kn)) (fun x => by kernel_rfl), _, Try.func16, by kernel_rfl, by kernel_rfl⟩
/-! ### steeple/steeplelaw04.awake: function 13 -/
def steeplelaw04_awake.f (k : Nat) : Option Bool := (steeplelaw04_few.f k [1, 3]).bind fun r0 => (span_Turn.f k r0 2).bind fun r1 => (steeplelaw04_few.f k [3, 5, 6]).bind fun r2 => (span_Basis.f k r2).bind fun r3 => (steeplelaw04_few.f k [5, 3]).bind fun r4 => (steeplelaw01_Ref.f k r4).bind fun r5 => (steeplelaw01_Same.f k r3 r5).bind fun r6 => if r6 = true then (if r1.2 = 0 then ((steeplelaw04_few.f k [3, 2]).bind fun r7 => (steeplelaw01_Ref.f k r7).bind fun r8 => (steeplelaw01_Same.f k r1.1 r8).bind fun r9 => some r9) else some false) else some false
def steeplelaw04_awake.sig (k : Nat) : Sig E.toTys := ⟨[], [(false, .bool)], none, fun x => f k⟩
noncomputable def steeplelaw04_awake.body : Code := Try.f13.body.getD .skip
def steeplelaw04_awake.calls (k : Nat) : List (Nat × Sig E.toTys) := [(53, steeplelaw04_few.sig k), (52, span_Turn.sig k), (17, span_Basis.sig k), (15, steeplelaw01_Ref.sig k), (16, steeplelaw01_Same.sig k)]
def steeplelaw04_awake.cuts : List (Cut E (RT E.toTys [(false, .bool)])) := []
theorem steeplelaw04_awake.ok (k : Nat) : Okf (XR E) Try.prog 13 (steeplelaw04_awake.sig k) := ⟨fn_ok (C := fun k => tab.ctx fun f => lk f (steeplelaw04_awake.calls k)) (fun k => tie _) k (fun j hj => calls_ok (kc (steeplelaw04_few.ok j) (kc (span_Turn.ok j) (kc (span_Basis.ok j) (kc (steeplelaw01_Ref.ok j) (kc (steeplelaw01_Same.ok j) (kn))))))) 400 Try.func13 (body := steeplelaw04_awake.body) (res := [.tmp 0]) rfl (by kernel_rfl) steeplelaw04_awake.cuts (kn) (fun x => by kernel_rfl), _, Try.func13, by kernel_rfl, by kernel_rfl⟩
/-! ### steeple/steepleref02.Bit: function 59 -/
def steepleref02_Bit.f (k : Nat) (a0 : Int) : Option S30 := if a0 < 0 then some (⟨0, 0⟩ : S30) else if a0 > 127 then some (⟨0, 0⟩ : S30) else if a0 > 63 then (if 0 ≤ IntKind.u64.wrap (wrap64 (a0 - 64)) then some (⟨shl .u64 1 (IntKind.u64.wrap (wrap64 (a0 - 64))), 0⟩ : S30) else none) else if 0 ≤ IntKind.u64.wrap a0 then some (⟨0, shl .u64 1 (IntKind.u64.wrap a0)⟩ : S30) else none
def steepleref02_Bit.sig (k : Nat) : Sig E.toTys := ⟨[.int .i64], [(false, .st 1)], none, fun x => f k x.1⟩
noncomputable def steepleref02_Bit.body : Code := Try.f59.body.getD .skip
def steepleref02_Bit.calls (k : Nat) : List (Nat × Sig E.toTys) := []
def steepleref02_Bit.cuts : List (Cut E (RT E.toTys [(false, .st 1)])) := []
theorem steepleref02_Bit.ok (k : Nat) : Okf (XR E) Try.prog 59 (steepleref02_Bit.sig k) := ⟨fn_ok (C := fun k => tab.ctx fun f => lk f (steepleref02_Bit.calls k)) (fun k => tie _) k (fun j hj => calls_ok (kn)) 400 Try.func59 (body := steepleref02_Bit.body) (res := [.cell 2 30]) rfl (by kernel_rfl) steepleref02_Bit.cuts (kn) (fun x => by kernel_rfl), _, Try.func59, by kernel_rfl, by kernel_rfl⟩
/-! ### steeple/steepleref02.Has: function 23 -/
def steepleref02_Has.f (k : Nat) (a0 : S30) (a1 : Int) : Option Bool := (steepleref02_Bit.f k a1).bind fun r0 => some (!decide (bits .or .u64 (bits .and .u64 a0.f1 r0.f1) (bits .and .u64 a0.f0 r0.f0) = 0))
def steepleref02_Has.sig (k : Nat) : Sig E.toTys := ⟨[.st 1, .int .i64], [(false, .bool)], none, fun x => f k x.1 x.2.1⟩
noncomputable def steepleref02_Has.body : Code := Try.f23.body.getD .skip
def steepleref02_Has.calls (k : Nat) : List (Nat × Sig E.toTys) := [(59, steepleref02_Bit.sig k)]
def steepleref02_Has.cuts : List (Cut E (RT E.toTys [(false, .bool)])) := []
theorem steepleref02_Has.ok (k : Nat) : Okf (XR E) Try.prog 23 (steepleref02_Has.sig k) := ⟨fn_ok (C := fun k => tab.ctx fun f => lk f (steepleref02_Has.calls k)) (fun k => tie _) k (fun j hj => calls_ok (kc (steepleref02_Bit.ok j) (kn))) 400 Try.func23 (body := steepleref02_Has.body) (res := [.tmp 4]) rfl (by kernel_rfl) steepleref02_Has.cuts (kn) (fun x => by kernel_rfl), _, Try.func23, by kernel_rfl, by kernel_rfl⟩
/-! ### steeple/steepleref04.in: function 54 -/
def steepleref04_in.l2 : Nat → List Int → Int → Int → Option Bool
  | 0, _, _, _ => none
  | k + 1, x0, x1, x2 => if x2 < (x0.length : Int) then (if 0 ≤ x2 then (if x2 < (x0.length : Int) then (if rdI x0 x2 = x1 then some true else steepleref04_in.l2 k x0 x1 (wrap64 (x2 + 1))) else none) else none) else some false
def steepleref04_in.f (k : Nat) (a0 : List Int) (a1 : Int) : Option Bool := steepleref04_in.l2 k a0 a1 0
def steepleref04_in.sig (k : Nat) : Sig E.toTys := ⟨[.slice (.int .i64), .int .i64], [(false, .bool)], none, fun x => f k x.1 x.2.1⟩
noncomputable def steepleref04_in.body : Code := Try.f54.body.getD .skip
def steepleref04_in.calls (k : Nat) : List (Nat × Sig E.toTys) := []
def steepleref04_in.cuts : List (Cut E (RT E.toTys [(false, .bool)])) := [⟨true, 2, ⟨cat [.one (.val (.slice (.int .i64))), .one (.val (.int .i64))] (cat (ds 3) (cat [.one (.val (.int .i64))] (ds 12))), [], false⟩, fun k x => steepleref04_in.l2 k x.1.1 x.1.2.1 x.1.2.2.1⟩]
theorem steepleref04_in.ok (k : Nat) : Okf (XR E) Try.prog 54 (steepleref04_in.sig k) := ⟨fn_ok (C := fun k => tab.ctx fun f => lk f (steepleref04_in.calls k)) (fun k => tie _) k (fun j hj => calls_ok (kn)) 400 Try.func54 (body := steepleref04_in.body) (res := [.tmp 4]) rfl (by kernel_rfl) steepleref04_in.cuts (kc ⟨by kernel_rfl, rfl, fun _ => rfl, fun _ _ => by kernel_rfl⟩ (kn)) (fun x => by kernel_rfl), _, Try.func54, by kernel_rfl, by kernel_rfl⟩
/-! ### steeple/steepleref02.Add: function 60 -/
def steepleref02_Add.f (k : Nat) (a0 : S30) (a1 : S30) : Option S30 := some (⟨bits .xor .u64 a0.f0 a1.f0, bits .xor .u64 a0.f1 a1.f1⟩ : S30)
def steepleref02_Add.sig (k : Nat) : Sig E.toTys := ⟨[.st 1, .st 1], [(false, .st 1)], none, fun x => f k x.1 x.2.1⟩
noncomputable def steepleref02_Add.body : Code := Try.f60.body.getD .skip
def steepleref02_Add.calls (k : Nat) : List (Nat × Sig E.toTys) := []
def steepleref02_Add.cuts : List (Cut E (RT E.toTys [(false, .st 1)])) := []
theorem steepleref02_Add.ok (k : Nat) : Okf (XR E) Try.prog 60 (steepleref02_Add.sig k) := ⟨fn_ok (C := fun k => tab.ctx fun f => lk f (steepleref02_Add.calls k)) (fun k => tie _) k (fun j hj => calls_ok (kn)) 400 Try.func60 (body := steepleref02_Add.body) (res := [.cell 4 30]) rfl (by kernel_rfl) steepleref02_Add.cuts (kn) (fun x => by kernel_rfl), _, Try.func60, by kernel_rfl, by kernel_rfl⟩
/-! ### steeple/steepleref04.clear: function 55 -/
mutual
def steepleref04_clear.l3 : Nat → List S30 → Int → Int → Int → List S30 → Option (List S30)
  | 0, _, _, _, _, _ => none
  | k + 1, x0, x1, x2, x3, x4 => if x3 < (x0.length : Int) then (if x3 = x1 then steepleref04_clear.j7 k x0 x1 x2 x3 x4 else if 0 ≤ x3 then (if x3 < (x0.length : Int) then ((steepleref02_Has.f k (rd30 x0 x3) x2).bind fun r0 => if r0 = true then (if 0 ≤ x3 then (if x3 < (x0.length : Int) then (if 0 ≤ x1 then (if x1 < (x0.length : Int) then ((steepleref02_Add.f k (rd30 x0 x3) (rd30 x0 x1)).bind fun r1 => if x4.length + [r1].length ≤ 140737488355328 / 16 then steepleref04_clear.j4 k x0 x1 x2 x3 (x4 ++ [r1]) else none) else none) else none) else none) else none) else steepleref04_clear.j7 k x0 x1 x2 x3 x4) else none) else none) else some x4
def steepleref04_clear.j7 : Nat → List S30 → Int → Int → Int → List S30 → Option (List S30)
  | 0, _, _, _, _, _ => none
  | k + 1, x0, x1, x2, x3, x4 => if 0 ≤ x3 then (if x3 < (x0.length : Int) then (if x4.length + [rd30 x0 x3].length ≤ 140737488355328 / 16 then steepleref04_clear.j4 k x0 x1 x2 x3 (x4 ++ [rd30 x0 x3]) else none) else none) else none
def steepleref04_clear.j4 : Nat → List S30 → Int → Int → Int → List S30 → Option (List S30)
  | 0, _, _, _, _, _ => none
  | k + 1, x0, x1, x2, x3, x4 => steepleref04_clear.l3 k x0 x1 x2 (wrap64 (x3 + 1)) x4
end
def steepleref04_clear.f (k : Nat) (a0 : List S30) (a1 : Int) (a2 : Int) : Option (List S30) := steepleref04_clear.l3 k a0 a1 a2 0 []
def steepleref04_clear.sig (k : Nat) : Sig E.toTys := ⟨[.slice (.st 1), .int .i64, .int .i64], [(true, .slice (.st 1))], none, fun x => f k x.1 x.2.1 x.2.2.1⟩
noncomputable def steepleref04_clear.body : Code := Try.f55.body.getD .skip
def steepleref04_clear.calls (k : Nat) : List (Nat × Sig E.toTys) := [(23, steepleref02_Has.sig k), (60, steepleref02_Add.sig k)]
def steepleref04_clear.cuts : List (Cut E (RT E.toTys [(true, .slice (.st 1))])) := [⟨true, 3, ⟨cat [.one (.val (.slice (.st 1))), .one (.val (.int .i64)), .one (.val (.int .i64))] (cat (ds 4) (cat [.one (.ref 0), .one (.val (.int .i64))] (ds 37))), [.arr (.st 1)], false⟩, fun k x => steepleref04_clear.l3 k x.1.1 x.1.2.1 x.1.2.2.1 x.1.2.2.2.1 x.2.1⟩,
  ⟨false, 7, ⟨cat [.one (.val (.slice (.st 1))), .one (.val (.int .i64)), .one (.val (.int .i64))] (cat (ds 4) (cat [.one (.ref 0), .one (.val (.int .i64))] (ds 37))), [.arr (.st 1)], false⟩, fun k x => steepleref04_clear.j7 k x.1.1 x.1.2.1 x.1.2.2.1 x.1.2.2.2.1 x.2.1⟩,
  ⟨false, 4, ⟨cat [.one (.val (.slice (.st 1))), .one (.val (.int .i64)), .one (.val (.int .i64))] (cat (ds 4) (cat [.one (.ref 0), .one (.val (.int .i64))] (ds 37))), [.arr (.st 1)], false⟩, fun k x => steepleref04_clear.j4 k x.1.1 x.1.2.1 x.1.2.2.1 x.1.2.2.2.1 x.2.1⟩]
theorem steepleref04_clear.ok (k : Nat) : Okf (XR E) Try.prog 55 (steepleref04_clear.sig k) := ⟨fn_ok (C := fun k => tab.ctx fun f => lk f (steepleref04_clear.calls k)) (fun k => tie _) k (fun j hj => calls_ok (kc (steepleref02_Has.ok j) (kc (steepleref02_Add.ok j) (kn)))) 400 Try.func55 (body := steepleref04_clear.body) (res := [.tmp 6]) rfl (by kernel_rfl) steepleref04_clear.cuts (kc ⟨by kernel_rfl, rfl, fun _ => rfl, fun _ _ => by kernel_rfl⟩ (kc ⟨by kernel_rfl, rfl, fun _ => rfl, fun _ _ => by kernel_rfl⟩ (kc ⟨by kernel_rfl, rfl, fun _ => rfl, fun _ _ => by kernel_rfl⟩ (kn)))) (fun x => by kernel_rfl), _, Try.func55, by kernel_rfl, by kernel_rfl⟩
/-! ### steeple/steepleref04.Basis: function 14 -/
mutual
def steepleref04_Basis.l4 : Nat → List S30 → Int → List Int → Option (List S30)
  | 0, _, _, _ => none
  | k + 1, x0, x1, x2 => if x1 ≥ 0 then steepleref04_Basis.l8 k x0 x1 (-1) 0 x2 else steepleref04_Basis.l17 k x0 0 x2 []
def steepleref04_Basis.l8 : Nat → List S30 → Int → Int → Int → List Int → Option (List S30)
  | 0, _, _, _, _, _ => none
  | k + 1, x0, x1, x2, x3, x4 => if x3 < (x0.length : Int) then (if x2 < 0 then (if 0 ≤ x3 then (if x3 < (x0.length : Int) then ((steepleref02_Has.f k (rd30 x0 x3) x1).bind fun r0 => if r0 = true then ((steepleref04_in.f k x4 x3).bind fun r1 => if (!r1) = true then steepleref04_Basis.j9 k x0 x1 x3 x3 x4 else steepleref04_Basis.j9 k x0 x1 x2 x3 x4) else steepleref04_Basis.j9 k x0 x1 x2 x3 x4) else none) else none) else steepleref04_Basis.j9 k x0 x1 x2 x3 x4) else if x2 ≥ 0 then ((steepleref04_clear.f k x0 x2 x1).bind fun r2 => if x4.length + [x2].length ≤ 140737488355328 / 8 then steepleref04_Basis.l4 k r2 (wrap64 (x1 - 1)) (x4 ++ [x2]) else none) else steepleref04_Basis.l4 k x0 (wrap64 (x1 - 1)) x4
def steepleref04_Basis.l17 : Nat → List S30 → Int → List Int → List S30 → Option (List S30)
  | 0, _, _, _, _ => none
  | k + 1, x0, x1, x2, x3 => if x1 < (x2.length : Int) then (if 0 ≤ x1 then (if x1 < (x2.length : Int) then (if 0 ≤ rdI x2 x1 then (if rdI x2 x1 < (x0.length : Int) then (if x3.length + [rd30 x0 (rdI x2 x1)].length ≤ 140737488355328 / 16 then steepleref04_Basis.l17 k x0 (wrap64 (x1 + 1)) x2 (x3 ++ [rd30 x0 (rdI x2 x1)]) else none) else none) else none) else none) else none) else some x3
def steepleref04_Basis.j9 : Nat → List S30 → Int → Int → Int → List Int → Option (List S30)
  | 0, _, _, _, _, _ => none
  | k + 1, x0, x1, x2, x3, x4 => steepleref04_Basis.l8 k x0 x1 x2 (wrap64 (x3 + 1)) x4
end
def steepleref04_Basis.f (k : Nat) (a0 : List S30) : Option (List S30) := steepleref04_Basis.l4 k a0 127 []
def steepleref04_Basis.sig (k : Nat) : Sig E.toTys := ⟨[.slice (.st 1)], [(true, .slice (.st 1))], none, fun x => f k x.1⟩
noncomputable def steepleref04_Basis.body : Code := Try.f14.body.getD .skip
def steepleref04_Basis.calls (k : Nat) : List (Nat × Sig E.toTys) := [(23, steepleref02_Has.sig k), (54, steepleref04_in.sig k), (55, steepleref04_clear.sig k)]
def steepleref04_Basis.cuts : List (Cut E (RT E.toTys [(true, .slice (.st 1))])) := [⟨true, 4, ⟨cat (ds 3) (cat [.one (.val (.slice (.st 1))), .one (.ref 0), .one (.val (.int .i64))] (ds 59)), [.arr (.int .i64)], false⟩, fun k x => steepleref04_Basis.l4 k x.1.1 x.1.2.1 x.2.1⟩,
  ⟨true, 8, ⟨cat (ds 3) (cat [.one (.val (.slice (.st 1))), .one (.ref 0), .one (.val (.int .i64)), .one (.val (.int .i64)), .one (.val (.int .i64))] (ds 57)), [.arr (.int .i64)], false⟩, fun k x => steepleref04_Basis.l8 k x.1.1 x.1.2.1 x.1.2.2.1 x.1.2.2.2.1 x.2.1⟩,
  ⟨true, 17, ⟨cat (ds 3) (cat [.one (.val (.slice (.st 1))), .one (.ref 0)] (cat (ds 3) (cat [.one (.ref 1), .one (.val (.int .i64))] (ds 55)))), [.arr (.int .i64), .arr (.st 1)], false⟩, fun k x => steepleref04_Basis.l17 k x.1.1 x.1.2.1 x.2.1 x.2.2.1⟩,
  ⟨false, 9, ⟨cat (ds 3) (cat [.one (.val (.slice (.st 1))), .one (.ref 0), .one (.val (.int .i64)), .one (.val (.int .i64)), .one (.val (.int .i64))] (ds 57)), [.arr (.int .i64)], false⟩, fun k x => steepleref04_Basis.j9 k x.1.1 x.1.2.1 x.1.2.2.1 x.1.2.2.2.1 x.2.1⟩]
theorem steepleref04_Basis.ok (k : Nat) : Okf (XR E) Try.prog 14 (steepleref04_Basis.sig k) := ⟨fn_ok (C := fun k => tab.ctx fun f => lk f (steepleref04_Basis.calls k)) (fun k => tie _) k (fun j hj => calls_ok (kc (steepleref02_Has.ok j) (kc (steepleref04_in.ok j) (kc (steepleref04_clear.ok j) (kn))))) 400 Try.func14 (body := steepleref04_Basis.body) (res := [.tmp 2]) rfl (by kernel_rfl) steepleref04_Basis.cuts (kc ⟨by kernel_rfl, rfl, fun _ => rfl, fun _ _ => by kernel_rfl⟩ (kc ⟨by kernel_rfl, rfl, fun _ => rfl, fun _ _ => by kernel_rfl⟩ (kc ⟨by kernel_rfl, rfl, fun _ => rfl, fun _ _ => by kernel_rfl⟩ (kc ⟨by kernel_rfl, rfl, fun _ => rfl, fun _ _ => by kernel_rfl⟩ (kn))))) (fun x => by kernel_rfl), _, Try.func14, by kernel_rfl, by kernel_rfl⟩
/-! ### steeple/span.Rank: function 18 -/
def span_Rank.f (k : Nat) (a0 : List S25) : Option Int := (span_Basis.f k a0).bind fun r0 => some (r0.length : Int)
def span_Rank.sig (k : Nat) : Sig E.toTys := ⟨[.slice (.st 0)], [(false, .int .i64)], none, fun x => f k x.1⟩
noncomputable def span_Rank.body : Code := Try.f18.body.getD .skip
def span_Rank.calls (k : Nat) : List (Nat × Sig E.toTys) := [(17, span_Basis.sig k)]
def span_Rank.cuts : List (Cut E (RT E.toTys [(false, .int .i64)])) := []
theorem span_Rank.ok (k : Nat) : Okf (XR E) Try.prog 18 (span_Rank.sig k) := ⟨fn_ok (C := fun k => tab.ctx fun f => lk f (span_Rank.calls k)) (fun k => tie _) k (fun j hj => calls_ok (kc (span_Basis.ok j) (kn))) 400 Try.func18 (body := span_Rank.body) (res := [.tmp 2]) rfl (by kernel_rfl) span_Rank.cuts (kn) (fun x => by kernel_rfl), _, Try.func18, by kernel_rfl, by kernel_rfl⟩
/-! ### steeple/span.In: function 19 -/
def span_In.f (k : Nat) (a0 : List S25) (a1 : S25) : Option Bool := (span_Basis.f k a0).bind fun r0 => (span_less.f k r0 a1).bind fun r1 => some (decide (r1.f0 = 0 ∧ r1.f1 = 0))
def span_In.sig (k : Nat) : Sig E.toTys := ⟨[.slice (.st 0), .st 0], [(false, .bool)], none, fun x => f k x.1 x.2.1⟩
noncomputable def span_In.body : Code := Try.f19.body.getD .skip
def span_In.calls (k : Nat) : List (Nat × Sig E.toTys) := [(17, span_Basis.sig k), (57, span_less.sig k)]
def span_In.cuts : List (Cut E (RT E.toTys [(false, .bool)])) := []
theorem span_In.ok (k : Nat) : Okf (XR E) Try.prog 19 (span_In.sig k) := ⟨fn_ok (C := fun k => tab.ctx fun f => lk f (span_In.calls k)) (fun k => tie _) k (fun j hj => calls_ok (kc (span_Basis.ok j) (kc (span_less.ok j) (kn)))) 400 Try.func19 (body := span_In.body) (res := [.tmp 4]) rfl (by kernel_rfl) span_In.cuts (kn) (fun x => by kernel_rfl), _, Try.func19, by kernel_rfl, by kernel_rfl⟩
/-! ### steeple/steepleref04.In: function 20 -/
def steepleref04_In.l3 : Nat → List S30 → Int → Int → Int → List S30 → Option Bool
  | 0, _, _, _, _, _ => none
  | k + 1, x0, x1, x2, x3, x4 => if x1 < (x0.length : Int) then (if 0 ≤ x1 then (if x1 < (x0.length : Int) then (if x4.length + [rd30 x0 x1].length ≤ 140737488355328 / 16 then steepleref04_In.l3 k x0 (wrap64 (x1 + 1)) x2 x3 (x4 ++ [rd30 x0 x1]) else none) else none) else none) else if x4.length + [(⟨x2, x3⟩ : S30)].length ≤ 140737488355328 / 16 then ((steepleref04_Basis.f k (x4 ++ [(⟨x2, x3⟩ : S30)])).bind fun r0 => (steepleref04_Basis.f k x0).bind fun r1 => some (decide ((r0.length : Int) = (r1.length : Int)))) else none
def steepleref04_In.f (k : Nat) (a0 : List S30) (a1 : S30) : Option Bool := steepleref04_In.l3 k a0 0 a1.f0 a1.f1 []
def steepleref04_In.sig (k : Nat) : Sig E.toTys := ⟨[.slice (.st 1), .st 1], [(false, .bool)], none, fun x => f k x.1 x.2.1⟩
noncomputable def steepleref04_In.body : Code := Try.f20.body.getD .skip
def steepleref04_In.calls (k : Nat) : List (Nat × Sig E.toTys) := [(14, steepleref04_Basis.sig k)]
def steepleref04_In.cuts : List (Cut E (RT E.toTys [(false, .bool)])) := [⟨true, 3, ⟨cat [.one (.val (.slice (.st 1)))] (cat (ds 2) (cat [.one (.ptr 0 0)] (cat (ds 1) (cat [.one (.ref 1), .one (.val (.int .i64))] (ds 24))))), [.var [.val (.int .u64), .val (.int .u64)], .arr (.st 1)], false⟩, fun k x => steepleref04_In.l3 k x.1.1 x.1.2.1 x.2.1.1 x.2.1.2.1 x.2.2.1⟩]
theorem steepleref04_In.ok (k : Nat) : Okf (XR E) Try.prog 20 (steepleref04_In.sig k) := ⟨fn_ok (C := fun k => tab.ctx fun f => lk f (steepleref04_In.calls k)) (fun k => tie _) k (fun j hj => calls_ok (kc (steepleref04_Basis.ok j) (kn))) 400 Try.func20 (body := steepleref04_In.body) (res := [.tmp 4]) rfl (by kernel_rfl) steepleref04_In.cuts (kc ⟨by kernel_rfl, rfl, fun _ => rfl, fun _ _ => by kernel_rfl⟩ (kn)) (fun x => by kernel_rfl), _, Try.func20, by kernel_rfl, by kernel_rfl⟩
/-! ### slices.Equal: function 58 -/
def slices_Equal58.l4 : Nat → List S25 → List S25 → Int → Int → Option Bool
  | 0, _, _, _, _ => none
  | k + 1, x0, x1, x2, x3 => if x3 < x2 then (if 0 ≤ x3 then (if x3 < (x0.length : Int) then (if 0 ≤ x3 then (if x3 < (x1.length : Int) then (if (rd25 x0 x3).f0 = (rd25 x1 x3).f0 ∧ (rd25 x0 x3).f1 = (rd25 x1 x3).f1 then slices_Equal58.l4 k x0 x1 x2 (wrap64 (x3 + 1)) else some false) else none) else none) else none) else none) else some true
def slices_Equal58.f (k : Nat) (a0 : List S25) (a1 : List S25) : Option Bool := if (a0.length : Int) = (a1.length : Int) then slices_Equal58.l4 k a0 a1 (a0.length : Int) 0 else some false
def slices_Equal58.sig (k : Nat) : Sig E.toTys := ⟨[.slice (.st 0), .slice (.st 0)], [(false, .bool)], none, fun x => f k x.1 x.2.1⟩
noncomputable def slices_Equal58.body : Code := Try.f58.body.getD .skip
def slices_Equal58.calls (k : Nat) : List (Nat × Sig E.toTys) := []
def slices_Equal58.cuts : List (Cut E (RT E.toTys [(false, .bool)])) := [⟨true, 4, ⟨cat [.one (.val (.slice (.st 0))), .one (.val (.slice (.st 0)))] (cat (ds 10) (cat [.one (.val (.int .i64)), .one (.val (.int .i64))] (ds 12))), [], false⟩, fun k x => slices_Equal58.l4 k x.1.1 x.1.2.1 x.1.2.2.1 x.1.2.2.2.1⟩]
theorem slices_Equal58.ok (k : Nat) : Okf (XR E) Try.prog 58 (slices_Equal58.sig k) := ⟨fn_ok (C := fun k => tab.ctx fun f => lk f (slices_Equal58.calls k)) (fun k => tie _) k (fun j hj => calls_ok (kn)) 400 Try.func58 (body := slices_Equal58.body) (res := [.tmp 4]) rfl (by kernel_rfl) slices_Equal58.cuts (kc ⟨by kernel_rfl, rfl, fun _ => rfl, fun _ _ => by kernel_rfl⟩ (kn)) (fun x => by kernel_rfl), _, Try.func58, by kernel_rfl, by kernel_rfl⟩
/-! ### steeple/span.Same: function 21 -/
def span_Same.f (k : Nat) (a0 : List S25) (a1 : List S25) : Option Bool := (span_Basis.f k a0).bind fun r0 => (span_Basis.f k a1).bind fun r1 => (slices_Equal58.f k r0 r1).bind fun r2 => some r2
def span_Same.sig (k : Nat) : Sig E.toTys := ⟨[.slice (.st 0), .slice (.st 0)], [(false, .bool)], none, fun x => f k x.1 x.2.1⟩
noncomputable def span_Same.body : Code := Try.f21.body.getD .skip
def span_Same.calls (k : Nat) : List (Nat × Sig E.toTys) := [(17, span_Basis.sig k), (58, slices_Equal58.sig k)]
def span_Same.cuts : List (Cut E (RT E.toTys [(false, .bool)])) := []
theorem span_Same.ok (k : Nat) : Okf (XR E) Try.prog 21 (span_Same.sig k) := ⟨fn_ok (C := fun k => tab.ctx fun f => lk f (span_Same.calls k)) (fun k => tie _) k (fun j hj => calls_ok (kc (span_Basis.ok j) (kc (slices_Equal58.ok j) (kn)))) 400 Try.func21 (body := span_Same.body) (res := [.tmp 4]) rfl (by kernel_rfl) span_Same.cuts (kn) (fun x => by kernel_rfl), _, Try.func21, by kernel_rfl, by kernel_rfl⟩
/-! ### steeple/steeplelaw04.SpanBases: function 3 -/
mutual
def steeplelaw04_SpanBases.l6 : Nat → List S25 → List S25 → Bool → Int → Int → Int → List S30 → List S30 → Option Bool
  | 0, _, _, _, _, _, _, _, _ => none
  | k + 1, x0, x1, x2, x3, x4, x5, x6, x7 => if x2 = true then (if x3 < (x6.length : Int) then (if 0 ≤ x3 then (if x3 < (x6.length : Int) then (if 0 ≤ x3 then (if x3 < (x7.length : Int) then steeplelaw04_SpanBases.l6 k x0 x1 (decide ((rd30 x6 x3).f0 = (rd30 x7 x3).f0 ∧ (rd30 x6 x3).f1 = (rd30 x7 x3).f1)) (wrap64 (x3 + 1)) x4 x5 x6 x7 else none) else none) else none) else none) else steeplelaw04_SpanBases.j9 k x0 x1 x2 x4 x5 x6) else steeplelaw04_SpanBases.j9 k x0 x1 x2 x4 x5 x6
def steeplelaw04_SpanBases.j9 : Nat → List S25 → List S25 → Bool → Int → Int → List S30 → Option Bool
  | 0, _, _, _, _, _, _ => none
  | k + 1, x0, x1, x2, x3, x4, x5 => (steeplelaw04_awake.f k).bind fun r6 => if r6 = true then ((span_Basis.f k x0).bind fun r7 => (steeplelaw01_Same.f k r7 x5).bind fun r8 => if r8 = true then ((span_Rank.f k x0).bind fun r9 => if r9 = (x5.length : Int) then ((span_In.f k x0 (⟨x3, x4⟩ : S25)).bind fun r10 => (steeplelaw01_Ref.f k x0).bind fun r11 => (steepleref04_In.f k r11 (⟨x3, x4⟩ : S30)).bind fun r12 => if r10 = r12 then ((span_Same.f k x0 x1).bind fun r13 => some (decide (r13 = x2))) else some false) else some false) else some false) else some false
end
def steeplelaw04_SpanBases.f (k : Nat) (a0 : List S25) (a1 : List S25) (a2 : S25) : Option Bool := if (a0.length : Int) > 20 then ((steeplelaw04_awake.f k).bind fun r0 => some r0) else if (a1.length : Int) > 20 then ((steeplelaw04_awake.f k).bind fun r1 => some r1) else (steeplelaw01_Ref.f k a0).bind fun r2 => (steepleref04_Basis.f k r2).bind fun r3 => (steeplelaw01_Ref.f k a1).bind fun r4 => (steepleref04_Basis.f k r4).bind fun r5 => steeplelaw04_SpanBases.l6 k a0 a1 (decide ((r3.length : Int) = (r5.length : Int))) 0 a2.f0 a2.f1 r3 r5
def steeplelaw04_SpanBases.sig (k : Nat) : Sig E.toTys := ⟨[.slice (.st 0), .slice (.st 0), .st 0], [(false, .bool)], none, fun x => f k x.1 x.2.1 x.2.2.1⟩
noncomputable def steeplelaw04_SpanBases.body : Code := Try.f3.body.getD .skip
def steeplelaw04_SpanBases.calls (k : Nat) : List (Nat × Sig E.toTys) := [(13, steeplelaw04_awake.sig k), (15, steeplelaw01_Ref.sig k), (14, steepleref04_Basis.sig k), (17, span_Basis.sig k), (16, steeplelaw01_Same.sig k), (18, span_Rank.sig k), (19, span_In.sig k), (20, steepleref04_In.sig k), (21, span_Same.sig k)]
def steeplelaw04_SpanBases.cuts : List (Cut E (RT E.toTys [(false, .bool)])) := [⟨true, 6, ⟨cat [.one (.val (.slice (.st 0))), .one (.val (.slice (.st 0)))] (cat (ds 3) (cat [.one (.ptr 0 0)] (cat (ds 1) (cat [.one (.ref 1), .one (.ref 2), .one (.val (.bool)), .one (.val (.int .i64))] (ds 69))))), [.var [.val (.int .u64), .val (.int .u64)], .arr (.st 1), .arr (.st 1)], false⟩, fun k x => steeplelaw04_SpanBases.l6 k x.1.1 x.1.2.1 x.1.2.2.1 x.1.2.2.2.1 x.2.1.1 x.2.1.2.1 x.2.2.1 x.2.2.2.1⟩,
  ⟨false, 9, ⟨cat [.one (.val (.slice (.st 0))), .one (.val (.slice (.st 0)))] (cat (ds 3) (cat [.one (.ptr 0 0)] (cat (ds 1) (cat [.one (.ref 1)] (cat (ds 1) (cat [.one (.val (.bool))] (ds 70))))))), [.var [.val (.int .u64), .val (.int .u64)], .arr (.st 1)], false⟩, fun k x => steeplelaw04_SpanBases.j9 k x.1.1 x.1.2.1 x.1.2.2.1 x.2.1.1 x.2.1.2.1 x.2.2.1⟩]
theorem steeplelaw04_SpanBases.ok (k : Nat) : Okf (XR E) Try.prog 3 (steeplelaw04_SpanBases.sig k) := ⟨fn_ok (C := fun k => tab.ctx fun f => lk f (steeplelaw04_SpanBases.calls k)) (fun k => tie _) k (fun j hj => calls_ok (kc (steeplelaw04_awake.ok j) (kc (steeplelaw01_Ref.ok j) (kc (steepleref04_Basis.ok j) (kc (span_Basis.ok j) (kc (steeplelaw01_Same.ok j) (kc (span_Rank.ok j) (kc (span_In.ok j) (kc (steepleref04_In.ok j) (kc (span_Same.ok j) (kn))))))))))) 400 Try.func3 (body := steeplelaw04_SpanBases.body) (res := [.tmp 6]) rfl (by kernel_rfl) steeplelaw04_SpanBases.cuts (kc ⟨by kernel_rfl, rfl, fun _ => rfl, fun _ _ => by kernel_rfl⟩ (kc ⟨by kernel_rfl, rfl, fun _ => rfl, fun _ _ => by kernel_rfl⟩ (kn))) (fun x => by kernel_rfl), _, Try.func3, by kernel_rfl, by kernel_rfl⟩
/-! ### steeple/steepleref04.Lead: function 22 -/
def steepleref04_Lead.l3 : Nat → Int → Int → Int → Int → Option Int
  | 0, _, _, _, _ => none
  | k + 1, x0, x1, x2, x3 => if x1 < 128 then ((steepleref02_Has.f k (⟨x2, x3⟩ : S30) x1).bind fun r0 => if r0 = true then steepleref04_Lead.l3 k x1 (wrap64 (x1 + 1)) x2 x3 else steepleref04_Lead.l3 k x0 (wrap64 (x1 + 1)) x2 x3) else some x0
def steepleref04_Lead.f (k : Nat) (a0 : S30) : Option Int := steepleref04_Lead.l3 k (-1) 0 a0.f0 a0.f1
def steepleref04_Lead.sig (k : Nat) : Sig E.toTys := ⟨[.st 1], [(false, .int .i64)], none, fun x => f k x.1⟩
noncomputable def steepleref04_Lead.body : Code := Try.f22.body.getD .skip
def steepleref04_Lead.calls (k : Nat) : List (Nat × Sig E.toTys) := [(23, steepleref02_Has.sig k)]
def steepleref04_Lead.cuts : List (Cut E (RT E.toTys [(false, .int .i64)])) := [⟨true, 3, ⟨cat (ds 1) (cat [.one (.ptr 0 0)] (cat (ds 1) (cat [.one (.val (.int .i64)), .one (.val (.int .i64))] (ds 9)))), [.var [.val (.int .u64), .val (.int .u64)]], false⟩, fun k x => steepleref04_Lead.l3 k x.1.1 x.1.2.1 x.2.1.1 x.2.1.2.1⟩]
theorem steepleref04_Lead.ok (k : Nat) : Okf (XR E) Try.prog 22 (steepleref04_Lead.sig k) := ⟨fn_ok (C := fun k => tab.ctx fun f => lk f (steepleref04_Lead.calls k)) (fun k => tie _) k (fun j hj => calls_ok (kc (steepleref02_Has.ok j) (kn))) 400 Try.func22 (body := steepleref04_Lead.body) (res := [.tmp 2]) rfl (by kernel_rfl) steepleref04_Lead.cuts (kc ⟨by kernel_rfl, rfl, fun _ => rfl, fun _ _ => by kernel_rfl⟩ (kn)) (fun x => by kernel_rfl), _, Try.func22, by kernel_rfl, by kernel_rfl⟩
end Go.Proofs.Ytohlooljopjmjaa.B
namespace Go.Proofs.Ytohlooljopjmjaa.B
open Go.Proofs.Ytohlooljopjmjaa.V.B Go.RowKit
set_option linter.unusedVariables false
/-! ### steeple/span.Point: function 24 -/
mutual
def span_Point.l3 : Nat → List S25 → Int → Int → Int → Int → Int → Int → Int → Option S25
  | 0, _, _, _, _, _, _, _, _ => none
  | k + 1, x0, x1, x2, x3, x4, x5, x6, x7 => if x3 < x2 then (if x1 > 0 then (if 0 ≤ x3 then (if bits .and .i64 (shr .i64 x1 x3) 1 = 1 then (if 0 ≤ x3 then (if x3 < (x0.length : Int) then ((tower_Add.f k (⟨x6, x7⟩ : S25) (rd25 x0 x3)).bind fun r0 => span_Point.j7 k x0 x1 x2 x3 x4 x5 r0.f0 r0.f1) else none) else none) else span_Point.j7 k x0 x1 x2 x3 x4 x5 x6 x7) else none) else span_Point.j7 k x0 x1 x2 x3 x4 x5 x6 x7) else some (⟨x6, x7⟩ : S25)
def span_Point.j7 : Nat → List S25 → Int → Int → Int → Int → Int → Int → Int → Option S25
  | 0, _, _, _, _, _, _, _, _ => none
  | k + 1, x0, x1, x2, x3, x4, x5, x6, x7 => span_Point.l3 k x0 x1 x2 (wrap64 (x3 + 1)) x4 x5 x6 x7
end
def span_Point.f (k : Nat) (a0 : List S25) (a1 : Int) : Option S25 := span_Point.l3 k a0 a1 (if 62 < (a0.length : Int) then (62 : Int) else (a0.length : Int)) 0 0 0 0 0
def span_Point.sig (k : Nat) : Sig E.toTys := ⟨[.slice (.st 0), .int .i64], [(false, .st 0)], none, fun x => f k x.1 x.2.1⟩
noncomputable def span_Point.body : Code := Try.f24.body.getD .skip
def span_Point.calls (k : Nat) : List (Nat × Sig E.toTys) := [(28, tower_Add.sig k)]
def span_Point.cuts : List (Cut E (RT E.toTys [(false, .st 0)])) := [⟨true, 3, ⟨cat [.one (.val (.slice (.st 0))), .one (.val (.int .i64))] (cat (ds 2) (cat [.one (.ptr 0 0), .one (.ptr 1 0)] (cat (ds 3) (cat [.one (.val (.int .i64)), .one (.val (.int .i64))] (ds 19))))), [.var [.val (.int .u64), .val (.int .u64)], .var [.val (.int .u64), .val (.int .u64)]], false⟩, fun k x => span_Point.l3 k x.1.1 x.1.2.1 x.1.2.2.1 x.1.2.2.2.1 x.2.1.1 x.2.1.2.1 x.2.2.1.1 x.2.2.1.2.1⟩,
  ⟨false, 7, ⟨cat [.one (.val (.slice (.st 0))), .one (.val (.int .i64))] (cat (ds 2) (cat [.one (.ptr 0 0), .one (.ptr 1 0)] (cat (ds 3) (cat [.one (.val (.int .i64)), .one (.val (.int .i64))] (ds 19))))), [.var [.val (.int .u64), .val (.int .u64)], .var [.val (.int .u64), .val (.int .u64)]], false⟩, fun k x => span_Point.j7 k x.1.1 x.1.2.1 x.1.2.2.1 x.1.2.2.2.1 x.2.1.1 x.2.1.2.1 x.2.2.1.1 x.2.2.1.2.1⟩]
theorem span_Point.ok (k : Nat) : Okf (XR E) Try.prog 24 (span_Point.sig k) := ⟨fn_ok (C := fun k => tab.ctx fun f => lk f (span_Point.calls k)) (fun k => tie _) k (fun j hj => calls_ok (kc (tower_Add.ok j) (kn))) 400 Try.func24 (body := span_Point.body) (res := [.cell 4 25]) rfl (by kernel_rfl) span_Point.cuts (kc ⟨by kernel_rfl, rfl, fun _ => rfl, fun _ _ => by kernel_rfl⟩ (kc ⟨by kernel_rfl, rfl, fun _ => rfl, fun _ _ => by kernel_rfl⟩ (kn))) (fun x => by kernel_rfl), _, Try.func24, by kernel_rfl, by kernel_rfl⟩
/-! ### steeple/steeplelaw04.SpanKeeps: function 4 -/
mutual
def steeplelaw04_SpanKeeps.l5 : Nat → List S25 → Int → List S25 → Int → Option Bool
  | 0, _, _, _, _ => none
  | k + 1, x0, x1, x2, x3 => if x3 < (x0.length : Int) then (if 0 ≤ x3 then (if x3 < (x0.length : Int) then ((span_In.f k x2 (rd25 x0 x3)).bind fun r2 => if (!r2) = true then some false else steeplelaw04_SpanKeeps.l5 k x0 x1 x2 (wrap64 (x3 + 1))) else none) else none) else steeplelaw04_SpanKeeps.l10 k x0 x1 x2 0
def steeplelaw04_SpanKeeps.l10 : Nat → List S25 → Int → List S25 → Int → Option Bool
  | 0, _, _, _, _ => none
  | k + 1, x0, x1, x2, x3 => if x3 < (x2.length : Int) then (if 0 ≤ x3 then (if x3 < (x2.length : Int) then ((steepleref04_Lead.f k (⟨(rd25 x2 x3).f0, (rd25 x2 x3).f1⟩ : S30)).bind fun r3 => if r3 < 0 then some false else if 0 ≤ x3 then (if x3 < (x2.length : Int) then ((span_In.f k x0 (rd25 x2 x3)).bind fun r4 => if (!r4) = true then some false else if x3 > 0 then (if 0 ≤ wrap64 (x3 - 1) then (if wrap64 (x3 - 1) < (x2.length : Int) then ((steepleref04_Lead.f k (⟨(rd25 x2 (wrap64 (x3 - 1))).f0, (rd25 x2 (wrap64 (x3 - 1))).f1⟩ : S30)).bind fun r5 => if r3 ≥ r5 then some false else steeplelaw04_SpanKeeps.l16 k x0 x1 x2 x3 r3 0) else none) else none) else steeplelaw04_SpanKeeps.l16 k x0 x1 x2 x3 r3 0) else none) else none) else none) else none) else (steeplelaw04_awake.f k).bind fun r6 => if r6 = true then ((span_Point.f k x0 x1).bind fun r7 => (span_In.f k x0 r7).bind fun r8 => if r8 = true then ((span_Same.f k x0 x2).bind fun r9 => some r9) else some false) else some false
def steeplelaw04_SpanKeeps.l16 : Nat → List S25 → Int → List S25 → Int → Int → Int → Option Bool
  | 0, _, _, _, _, _, _ => none
  | k + 1, x0, x1, x2, x3, x4, x5 => if x5 < (x2.length : Int) then (if x5 = x3 then steeplelaw04_SpanKeeps.l16 k x0 x1 x2 x3 x4 (wrap64 (x5 + 1)) else if 0 ≤ x5 then (if x5 < (x2.length : Int) then ((steepleref02_Has.f k (⟨(rd25 x2 x5).f0, (rd25 x2 x5).f1⟩ : S30) x4).bind fun r10 => if r10 = true then some false else steeplelaw04_SpanKeeps.l16 k x0 x1 x2 x3 x4 (wrap64 (x5 + 1))) else none) else none) else steeplelaw04_SpanKeeps.l10 k x0 x1 x2 (wrap64 (x3 + 1))
end
def steeplelaw04_SpanKeeps.f (k : Nat) (a0 : List S25) (a1 : Int) : Option Bool := if (a0.length : Int) > 20 then ((steeplelaw04_awake.f k).bind fun r0 => some r0) else (span_Basis.f k a0).bind fun r1 => steeplelaw04_SpanKeeps.l5 k a0 a1 r1 0
def steeplelaw04_SpanKeeps.sig (k : Nat) : Sig E.toTys := ⟨[.slice (.st 0), .int .i64], [(false, .bool)], none, fun x => f k x.1 x.2.1⟩
noncomputable def steeplelaw04_SpanKeeps.body : Code := Try.f4.body.getD .skip
def steeplelaw04_SpanKeeps.calls (k : Nat) : List (Nat × Sig E.toTys) := [(13, steeplelaw04_awake.sig k), (17, span_Basis.sig k), (19, span_In.sig k), (22, steepleref04_Lead.sig k), (24, span_Point.sig k), (21, span_Same.sig k), (23, steepleref02_Has.sig k)]
def steeplelaw04_SpanKeeps.cuts : List (Cut E (RT E.toTys [(false, .bool)])) := [⟨true, 5, ⟨cat [.one (.val (.slice (.st 0))), .one (.val (.int .i64))] (cat (ds 3) (cat [.one (.val (.slice (.st 0))), .one (.val (.int .i64))] (ds 88))), [], false⟩, fun k x => steeplelaw04_SpanKeeps.l5 k x.1.1 x.1.2.1 x.1.2.2.1 x.1.2.2.2.1⟩,
  ⟨true, 10, ⟨cat [.one (.val (.slice (.st 0))), .one (.val (.int .i64))] (cat (ds 3) (cat [.one (.val (.slice (.st 0)))] (cat (ds 1) (cat [.one (.val (.int .i64))] (ds 87))))), [], false⟩, fun k x => steeplelaw04_SpanKeeps.l10 k x.1.1 x.1.2.1 x.1.2.2.1 x.1.2.2.2.1⟩,
  ⟨true, 16, ⟨cat [.one (.val (.slice (.st 0))), .one (.val (.int .i64))] (cat (ds 3) (cat [.one (.val (.slice (.st 0)))] (cat (ds 1) (cat [.one (.val (.int .i64)), .one (.val (.int .i64)), .one (.val (.int .i64))] (ds 85))))), [], false⟩, fun k x => steeplelaw04_SpanKeeps.l16 k x.1.1 x.1.2.1 x.1.2.2.1 x.1.2.2.2.1 x.1.2.2.2.2.1 x.1.2.2.2.2.2.1⟩]
theorem steeplelaw04_SpanKeeps.ok (k : Nat) : Okf (XR E) Try.prog 4 (steeplelaw04_SpanKeeps.sig k) := ⟨fn_ok (C := fun k => tab.ctx fun f => lk f (steeplelaw04_SpanKeeps.calls k)) (fun k => tie _) k (fun j hj => calls_ok (kc (steeplelaw04_awake.ok j) (kc (span_Basis.ok j) (kc (span_In.ok j) (kc (steepleref04_Lead.ok j) (kc (span_Point.ok j) (kc (span_Same.ok j) (kc (steepleref02_Has.ok j) (kn))))))))) 400 Try.func4 (body := steeplelaw04_SpanKeeps.body) (res := [.tmp 4]) rfl (by kernel_rfl) steeplelaw04_SpanKeeps.cuts (kc ⟨by kernel_rfl, rfl, fun _ => rfl, fun _ _ => by kernel_rfl⟩ (kc ⟨by kernel_rfl, rfl, fun _ => rfl, fun _ _ => by kernel_rfl⟩ (kc ⟨by kernel_rfl, rfl, fun _ => rfl, fun _ _ => by kernel_rfl⟩ (kn)))) (fun x => by kernel_rfl), _, Try.func4, by kernel_rfl, by kernel_rfl⟩
/-! ### steeple/steepleref04.Point: function 25 -/
def steepleref04_Point.l5 : Nat → List S30 → Int → Int → Int → Int → Int → Int → Option S30
  | 0, _, _, _, _, _, _, _ => none
  | k + 1, x0, x1, x2, x3, x4, x5, x6 => if x2 < (x0.length : Int) then (if x2 < 62 then (if Int.tmod x1 2 = 1 then (if 0 ≤ x2 then (if x2 < (x0.length : Int) then ((steepleref02_Add.f k (⟨x5, x6⟩ : S30) (rd30 x0 x2)).bind fun r0 => steepleref04_Point.l5 k x0 (wrap64 (Int.tdiv x1 2)) (wrap64 (x2 + 1)) x3 x4 r0.f0 r0.f1) else none) else none) else steepleref04_Point.l5 k x0 (wrap64 (Int.tdiv x1 2)) (wrap64 (x2 + 1)) x3 x4 x5 x6) else some (⟨x5, x6⟩ : S30)) else some (⟨x5, x6⟩ : S30)
def steepleref04_Point.f (k : Nat) (a0 : List S30) (a1 : Int) : Option S30 := if a1 < 0 then some (⟨0, 0⟩ : S30) else steepleref04_Point.l5 k a0 a1 0 0 0 0 0
def steepleref04_Point.sig (k : Nat) : Sig E.toTys := ⟨[.slice (.st 1), .int .i64], [(false, .st 1)], none, fun x => f k x.1 x.2.1⟩
noncomputable def steepleref04_Point.body : Code := Try.f25.body.getD .skip
def steepleref04_Point.calls (k : Nat) : List (Nat × Sig E.toTys) := [(60, steepleref02_Add.sig k)]
def steepleref04_Point.cuts : List (Cut E (RT E.toTys [(false, .st 1)])) := [⟨true, 5, ⟨cat [.one (.val (.slice (.st 1))), .one (.val (.int .i64))] (cat (ds 2) (cat [.one (.ptr 0 0), .one (.ptr 1 0), .one (.val (.int .i64))] (ds 25))), [.var [.val (.int .u64), .val (.int .u64)], .var [.val (.int .u64), .val (.int .u64)]], false⟩, fun k x => steepleref04_Point.l5 k x.1.1 x.1.2.1 x.1.2.2.1 x.2.1.1 x.2.1.2.1 x.2.2.1.1 x.2.2.1.2.1⟩]
theorem steepleref04_Point.ok (k : Nat) : Okf (XR E) Try.prog 25 (steepleref04_Point.sig k) := ⟨fn_ok (C := fun k => tab.ctx fun f => lk f (steepleref04_Point.calls k)) (fun k => tie _) k (fun j hj => calls_ok (kc (steepleref02_Add.ok j) (kn))) 400 Try.func25 (body := steepleref04_Point.body) (res := [.cell 4 30]) rfl (by kernel_rfl) steepleref04_Point.cuts (kc ⟨by kernel_rfl, rfl, fun _ => rfl, fun _ _ => by kernel_rfl⟩ (kn)) (fun x => by kernel_rfl), _, Try.func25, by kernel_rfl, by kernel_rfl⟩
/-! ### steeple/span.flip: function 63 -/
def span_flip.l1 : Nat → List Bool → Int → Int → List Bool → Option (List Bool)
  | 0, _, _, _, _ => none
  | k + 1, x0, x1, x2, x3 => if x2 < x1 then (if 0 ≤ x2 then (if x2 < (x3.length : Int) then (if 0 ≤ x2 then (if x2 < (x0.length : Int) then (if 0 ≤ x2 then (if x2 < (x3.length : Int) then span_flip.l1 k x0 x1 (wrap64 (x2 + 1)) (x3.set (Int.toNat x2) (!decide ((rdB x3 x2) = (rdB x0 x2)))) else none) else none) else none) else none) else none) else none) else some x3
def span_flip.f (k : Nat) (a0 : List Bool) (a1 : List Bool) : Option (List Bool) := span_flip.l1 k a1 (a0.length : Int) 0 a0
def span_flip.sig (k : Nat) : Sig E.toTys := ⟨[.slice .bool, .slice .bool], [(true, .slice .bool)], some 0, fun x => f k x.1 x.2.1⟩
noncomputable def span_flip.body : Code := Try.f63.body.getD .skip
def span_flip.calls (k : Nat) : List (Nat × Sig E.toTys) := []
def span_flip.cuts : List (Cut E (RT E.toTys [(true, .slice .bool)])) := [⟨true, 1, ⟨cat [.one (.ref 0), .one (.val (.slice .bool))] (cat (ds 4) (cat [.one (.val (.int .i64)), .one (.val (.int .i64))] (ds 15))), [.arr (.bool)], true⟩, fun k x => span_flip.l1 k x.1.1 x.1.2.1 x.1.2.2.1 x.2.1⟩]
theorem span_flip.ok (k : Nat) : Okf (XR E) Try.prog 63 (span_flip.sig k) := ⟨fn_okIO (C := fun k => tab.ctx fun f => lk f (span_flip.calls k)) (fun k => tie _) k (fun j hj => calls_ok (kn)) 400 0 Try.func63 (body := span_flip.body) (res := []) rfl (by kernel_rfl) span_flip.cuts (kc ⟨by kernel_rfl, rfl, fun _ => rfl, fun _ _ => by kernel_rfl⟩ (kn)) (fun x => by kernel_rfl), _, Try.func63, by kernel_rfl, by kernel_rfl⟩
/-! ### steeple/span.Solve: function 26 -/
mutual
def span_Solve.l3 : Nat → List S25 → List S25 → Int → Int → Int → Int → List S96 → Option ((List Bool) × Bool)
  | 0, _, _, _, _, _, _, _ => none
  | k + 1, x0, x1, x2, x3, x4, x5, x6 => if x3 < x2 then (if 0 ≤ x3 then (if x3 < (x1.length : Int) then (if 0 ≤ (x0.length : Int) then (if (x0.length : Int) ≤ 140737488355328 / ((1 : Nat) : Int) then (if 0 ≤ x3 then (if x3 < ((List.replicate (Int.toNat (x0.length : Int)) false).length : Int) then span_Solve.l8 k x0 x1 x2 x3 (x6.length : Int) 0 x4 x5 x6 (rd25 x1 x3).f0 (rd25 x1 x3).f1 ((List.replicate (Int.toNat (x0.length : Int)) false).set (Int.toNat x3) true) else none) else none) else none) else none) else none) else none) else if 0 ≤ (x0.length : Int) then (if (x0.length : Int) ≤ 140737488355328 / ((1 : Nat) : Int) then span_Solve.l19 k (x6.length : Int) 0 x4 x5 (List.replicate (Int.toNat (x0.length : Int)) false) x6 else none) else none
def span_Solve.l8 : Nat → List S25 → List S25 → Int → Int → Int → Int → Int → Int → List S96 → Int → Int → List Bool → Option ((List Bool) × Bool)
  | 0, _, _, _, _, _, _, _, _, _, _, _, _ => none
  | k + 1, x0, x1, x2, x3, x4, x5, x6, x7, x8, x9, x10, x11 => if x5 < x4 then (if 0 ≤ x5 then (if x5 < (x8.length : Int) then ((span_lead.f k (rd96 x8 x5).f0).bind fun r0 => (span_has.f k (⟨x9, x10⟩ : S25) r0).bind fun r1 => if r1 = true then ((tower_Add.f k (⟨x9, x10⟩ : S25) (rd96 x8 x5).f0).bind fun r2 => (span_flip.f k x11 (rd96 x8 x5).f1).bind fun r3 => span_Solve.l8 k x0 x1 x2 x3 x4 (wrap64 (x5 + 1)) x6 x7 x8 r2.f0 r2.f1 r3) else span_Solve.l8 k x0 x1 x2 x3 x4 (wrap64 (x5 + 1)) x6 x7 x8 x9 x10 x11) else none) else none) else if x9 = 0 ∧ x10 = 0 then span_Solve.l3 k x0 x1 x2 (wrap64 (x3 + 1)) x6 x7 x8 else if x8.length + [(⟨(⟨x9, x10⟩ : S25), x11⟩ : S96)].length ≤ 140737488355328 / 40 then span_Solve.l3 k x0 x1 x2 (wrap64 (x3 + 1)) x6 x7 (x8 ++ [(⟨(⟨x9, x10⟩ : S25), x11⟩ : S96)]) else none
def span_Solve.l19 : Nat → Int → Int → Int → Int → List Bool → List S96 → Option ((List Bool) × Bool)
  | 0, _, _, _, _, _, _ => none
  | k + 1, x0, x1, x2, x3, x4, x5 => if x1 < x0 then (if 0 ≤ x1 then (if x1 < (x5.length : Int) then ((span_lead.f k (rd96 x5 x1).f0).bind fun r4 => (span_has.f k (⟨x2, x3⟩ : S25) r4).bind fun r5 => if r5 = true then ((tower_Add.f k (⟨x2, x3⟩ : S25) (rd96 x5 x1).f0).bind fun r6 => (span_flip.f k x4 (rd96 x5 x1).f1).bind fun r7 => span_Solve.l19 k x0 (wrap64 (x1 + 1)) r6.f0 r6.f1 r7 x5) else span_Solve.l19 k x0 (wrap64 (x1 + 1)) x2 x3 x4 x5) else none) else none) else if x2 = 0 ∧ x3 = 0 then some (x4, true) else some ([], false)
end
def span_Solve.f (k : Nat) (a0 : List S25) (a1 : S25) : Option ((List Bool) × Bool) := span_Solve.l3 k a0 a0 (a0.length : Int) 0 a1.f0 a1.f1 []
def span_Solve.sig (k : Nat) : Sig E.toTys := ⟨[.slice (.st 0), .st 0], [(true, .slice .bool), (false, .bool)], none, fun x => f k x.1 x.2.1⟩
noncomputable def span_Solve.body : Code := Try.f26.body.getD .skip
def span_Solve.calls (k : Nat) : List (Nat × Sig E.toTys) := [(62, span_lead.sig k), (61, span_has.sig k), (28, tower_Add.sig k), (63, span_flip.sig k)]
def span_Solve.cuts : List (Cut E (RT E.toTys [(true, .slice .bool), (false, .bool)])) := [⟨true, 3, ⟨cat [.one (.val (.slice (.st 0)))] (cat (ds 2) (cat [.one (.ptr 0 0)] (cat (ds 2) (cat [.one (.ref 1)] (cat (ds 8) (cat [.one (.val (.slice (.st 0))), .one (.val (.int .i64)), .one (.val (.int .i64))] (ds 73))))))), [.var [.val (.int .u64), .val (.int .u64)], .arr (.st 2)], false⟩, fun k x => span_Solve.l3 k x.1.1 x.1.2.1 x.1.2.2.1 x.1.2.2.2.1 x.2.1.1 x.2.1.2.1 x.2.2.1⟩,
  ⟨true, 8, ⟨cat [.one (.val (.slice (.st 0)))] (cat (ds 2) (cat [.one (.ptr 0 0)] (cat (ds 2) (cat [.one (.ref 1)] (cat (ds 2) (cat [.one (.ptr 2 0)] (cat (ds 5) (cat [.one (.val (.slice (.st 0))), .one (.val (.int .i64)), .one (.val (.int .i64))] (cat (ds 13) (cat [.one (.ref 1), .one (.val (.int .i64)), .one (.val (.int .i64))] (ds 57))))))))))), [.var [.val (.int .u64), .val (.int .u64)], .arr (.st 2), .var [.val (.int .u64), .val (.int .u64), .ref 3], .arr (.bool)], false⟩, fun k x => span_Solve.l8 k x.1.1 x.1.2.1 x.1.2.2.1 x.1.2.2.2.1 x.1.2.2.2.2.1 x.1.2.2.2.2.2.1 x.2.1.1 x.2.1.2.1 x.2.2.1 x.2.2.2.1.1 x.2.2.2.1.2.1 x.2.2.2.2.1⟩,
  ⟨true, 19, ⟨cat (ds 3) (cat [.one (.ptr 0 0)] (cat (ds 8) (cat [.one (.ref 1)] (cat (ds 54) (cat [.one (.ref 2), .one (.val (.int .i64)), .one (.val (.int .i64))] (ds 21)))))), [.var [.val (.int .u64), .val (.int .u64)], .arr (.bool), .arr (.st 2)], false⟩, fun k x => span_Solve.l19 k x.1.1 x.1.2.1 x.2.1.1 x.2.1.2.1 x.2.2.1 x.2.2.2.1⟩]
theorem span_Solve.ok (k : Nat) : Okf (XR E) Try.prog 26 (span_Solve.sig k) := ⟨fn_ok (C := fun k => tab.ctx fun f => lk f (span_Solve.calls k)) (fun k => tie _) k (fun j hj => calls_ok (kc (span_lead.ok j) (kc (span_has.ok j) (kc (tower_Add.ok j) (kc (span_flip.ok j) (kn)))))) 400 Try.func26 (body := span_Solve.body) (res := [.tmp 4, .tmp 5]) rfl (by kernel_rfl) span_Solve.cuts (kc ⟨by kernel_rfl, rfl, fun _ => rfl, fun _ _ => by kernel_rfl⟩ (kc ⟨by kernel_rfl, rfl, fun _ => rfl, fun _ _ => by kernel_rfl⟩ (kc ⟨by kernel_rfl, rfl, fun _ => rfl, fun _ _ => by kernel_rfl⟩ (kn)))) (fun x => by kernel_rfl), _, Try.func26, by kernel_rfl, by kernel_rfl⟩
/-! ### steeple/steepleref04.Solve: function 27 -/
mutual
def steepleref04_Solve.l6 : Nat → List S30 → Int → Int → Int → List Bool → Option ((List Bool) × Bool)
  | 0, _, _, _, _, _ => none
  | k + 1, x0, x1, x2, x3, x4 => if x1 ≥ 0 then (if 0 ≤ x1 then (if x1 ≤ (x0.length : Int) then (if 0 ≤ x1 then (if x1 < (x0.length : Int) then ((steepleref04_In.f k (x0.take (Int.toNat x1)) (rd30 x0 x1)).bind fun r1 => if (!r1) = true then (if 0 ≤ x1 then (if x1 ≤ (x0.length : Int) then ((steepleref04_In.f k (x0.take (Int.toNat x1)) (⟨x2, x3⟩ : S30)).bind fun r2 => if (!r2) = true then (if 0 ≤ x1 then (if x1 < (x0.length : Int) then ((steepleref02_Add.f k (⟨x2, x3⟩ : S30) (rd30 x0 x1)).bind fun r3 => steepleref04_Solve.j11 k x0 x1 (!r2) x4 r3.f0 r3.f1) else none) else none) else steepleref04_Solve.j11 k x0 x1 (!r2) x4 x2 x3) else none) else none) else steepleref04_Solve.j11 k x0 x1 false x4 x2 x3) else none) else none) else none) else none) else steepleref04_Solve.l14 k (wrap64 ((x4.length : Int) - 1)) x4 []
def steepleref04_Solve.j11 : Nat → List S30 → Int → Bool → List Bool → Int → Int → Option ((List Bool) × Bool)
  | 0, _, _, _, _, _, _ => none
  | k + 1, x0, x1, x2, x3, x4, x5 => if x3.length + [x2].length ≤ 140737488355328 / 1 then steepleref04_Solve.j7 k x0 x1 (x3 ++ [x2]) x4 x5 else none
def steepleref04_Solve.l14 : Nat → Int → List Bool → List Bool → Option ((List Bool) × Bool)
  | 0, _, _, _ => none
  | k + 1, x0, x1, x2 => if x0 ≥ 0 then (if 0 ≤ x0 then (if x0 < (x1.length : Int) then (if x2.length + [rdB x1 x0].length ≤ 140737488355328 / 1 then steepleref04_Solve.l14 k (wrap64 (x0 - 1)) x1 (x2 ++ [rdB x1 x0]) else none) else none) else none) else some (x2, true)
def steepleref04_Solve.j7 : Nat → List S30 → Int → List Bool → Int → Int → Option ((List Bool) × Bool)
  | 0, _, _, _, _, _ => none
  | k + 1, x0, x1, x2, x3, x4 => steepleref04_Solve.l6 k x0 (wrap64 (x1 - 1)) x3 x4 x2
end
def steepleref04_Solve.f (k : Nat) (a0 : List S30) (a1 : S30) : Option ((List Bool) × Bool) := (steepleref04_In.f k a0 a1).bind fun r0 => if (!r0) = true then some ([], false) else steepleref04_Solve.l6 k a0 (wrap64 ((a0.length : Int) - 1)) a1.f0 a1.f1 []
def steepleref04_Solve.sig (k : Nat) : Sig E.toTys := ⟨[.slice (.st 1), .st 1], [(true, .slice .bool), (false, .bool)], none, fun x => f k x.1 x.2.1⟩
noncomputable def steepleref04_Solve.body : Code := Try.f27.body.getD .skip
def steepleref04_Solve.calls (k : Nat) : List (Nat × Sig E.toTys) := [(20, steepleref04_In.sig k), (60, steepleref02_Add.sig k)]
def steepleref04_Solve.cuts : List (Cut E (RT E.toTys [(true, .slice .bool), (false, .bool)])) := [⟨true, 6, ⟨cat [.one (.val (.slice (.st 1)))] (cat (ds 5) (cat [.one (.ref 1), .one (.ptr 0 0), .one (.val (.int .i64))] (ds 58))), [.var [.val (.int .u64), .val (.int .u64)], .arr (.bool)], false⟩, fun k x => steepleref04_Solve.l6 k x.1.1 x.1.2.1 x.2.1.1 x.2.1.2.1 x.2.2.1⟩,
  ⟨false, 11, ⟨cat [.one (.val (.slice (.st 1)))] (cat (ds 5) (cat [.one (.ref 0), .one (.ptr 1 0), .one (.val (.int .i64)), .one (.val (.bool))] (ds 57))), [.arr (.bool), .var [.val (.int .u64), .val (.int .u64)]], false⟩, fun k x => steepleref04_Solve.j11 k x.1.1 x.1.2.1 x.1.2.2.1 x.2.1 x.2.2.1.1 x.2.2.1.2.1⟩,
  ⟨true, 14, ⟨cat (ds 6) (cat [.one (.ref 0)] (cat (ds 3) (cat [.one (.ref 1), .one (.val (.int .i64))] (ds 55)))), [.arr (.bool), .arr (.bool)], false⟩, fun k x => steepleref04_Solve.l14 k x.1.1 x.2.1 x.2.2.1⟩,
  ⟨false, 7, ⟨cat [.one (.val (.slice (.st 1)))] (cat (ds 5) (cat [.one (.ref 0), .one (.ptr 1 0), .one (.val (.int .i64))] (ds 58))), [.arr (.bool), .var [.val (.int .u64), .val (.int .u64)]], false⟩, fun k x => steepleref04_Solve.j7 k x.1.1 x.1.2.1 x.2.1 x.2.2.1.1 x.2.2.1.2.1⟩]
theorem steepleref04_Solve.ok (k : Nat) : Okf (XR E) Try.prog 27 (steepleref04_Solve.sig k) := ⟨fn_ok (C := fun k => tab.ctx fun f => lk f (steepleref04_Solve.calls k)) (fun k => tie _) k (fun j hj => calls_ok (kc (steepleref04_In.ok j) (kc (steepleref02_Add.ok j) (kn)))) 400 Try.func27 (body := steepleref04_Solve.body) (res := [.tmp 4, .tmp 5]) rfl (by kernel_rfl) steepleref04_Solve.cuts (kc ⟨by kernel_rfl, rfl, fun _ => rfl, fun _ _ => by kernel_rfl⟩ (kc ⟨by kernel_rfl, rfl, fun _ => rfl, fun _ _ => by kernel_rfl⟩ (kc ⟨by kernel_rfl, rfl, fun _ => rfl, fun _ _ => by kernel_rfl⟩ (kc ⟨by kernel_rfl, rfl, fun _ => rfl, fun _ _ => by kernel_rfl⟩ (kn))))) (fun x => by kernel_rfl), _, Try.func27, by kernel_rfl, by kernel_rfl⟩
/-! ### steeple/steeplelaw04.SpanSolves: function 5 -/
mutual
def steeplelaw04_SpanSolves.l7 : Nat → List S25 → Int → Int → Int → Int → Int → Option Bool
  | 0, _, _, _, _, _, _ => none
  | k + 1, x0, x1, x2, x3, x4, x5 => if x1 < 2 then (if 0 ≤ x1 then (if x1 < ([(⟨x2, x3⟩ : S25), (⟨x4, x5⟩ : S25)].length : Int) then ((span_Solve.f k x0 (rd25 [(⟨x2, x3⟩ : S25), (⟨x4, x5⟩ : S25)] x1)).bind fun r4 => (steeplelaw01_Ref.f k x0).bind fun r5 => (steepleref04_Solve.f k r5 (⟨(rd25 [(⟨x2, x3⟩ : S25), (⟨x4, x5⟩ : S25)] x1).f0, (rd25 [(⟨x2, x3⟩ : S25), (⟨x4, x5⟩ : S25)] x1).f1⟩ : S30)).bind fun r6 => if r4.2 = r6.2 then (if (r4.1.length : Int) = (r6.1.length : Int) then steeplelaw04_SpanSolves.l16 k x0 x1 r4.2 0 x2 x3 x4 x5 (rd25 [(⟨x2, x3⟩ : S25), (⟨x4, x5⟩ : S25)] x1).f0 (rd25 [(⟨x2, x3⟩ : S25), (⟨x4, x5⟩ : S25)] x1).f1 r4.1 r6.1 0 0 else some false) else some false) else none) else none) else (steeplelaw04_awake.f k).bind fun r7 => some r7
def steeplelaw04_SpanSolves.l16 : Nat → List S25 → Int → Bool → Int → Int → Int → Int → Int → Int → Int → List Bool → List Bool → Int → Int → Option Bool
  | 0, _, _, _, _, _, _, _, _, _, _, _, _, _, _ => none
  | k + 1, x0, x1, x2, x3, x4, x5, x6, x7, x8, x9, x10, x11, x12, x13 => if x3 < (x10.length : Int) then (if 0 ≤ x3 then (if x3 < (x10.length : Int) then (if 0 ≤ x3 then (if x3 < (x11.length : Int) then (if (rdB x10 x3) = (rdB x11 x3) then (if 0 ≤ x3 then (if x3 < (x10.length : Int) then (if (rdB x10 x3) = true then (if 0 ≤ x3 then (if x3 < (x0.length : Int) then ((tower_Add.f k (⟨x12, x13⟩ : S25) (rd25 x0 x3)).bind fun r8 => steeplelaw04_SpanSolves.l16 k x0 x1 x2 (wrap64 (x3 + 1)) x4 x5 x6 x7 x8 x9 x10 x11 r8.f0 r8.f1) else none) else none) else steeplelaw04_SpanSolves.l16 k x0 x1 x2 (wrap64 (x3 + 1)) x4 x5 x6 x7 x8 x9 x10 x11 x12 x13) else none) else none) else some false) else none) else none) else none) else none) else if x2 = true then (if x12 = x8 ∧ x13 = x9 then (if x1 = 1 then (if (!x2) = true then some false else steeplelaw04_SpanSolves.j8 k x0 x1 x4 x5 x6 x7) else steeplelaw04_SpanSolves.j8 k x0 x1 x4 x5 x6 x7) else some false) else if x1 = 1 then (if (!x2) = true then some false else steeplelaw04_SpanSolves.j8 k x0 x1 x4 x5 x6 x7) else steeplelaw04_SpanSolves.j8 k x0 x1 x4 x5 x6 x7
def steeplelaw04_SpanSolves.j8 : Nat → List S25 → Int → Int → Int → Int → Int → Option Bool
  | 0, _, _, _, _, _, _ => none
  | k + 1, x0, x1, x2, x3, x4, x5 => steeplelaw04_SpanSolves.l7 k x0 (wrap64 (x1 + 1)) x2 x3 x4 x5
end
def steeplelaw04_SpanSolves.f (k : Nat) (a0 : List S25) (a1 : S25) (a2 : Int) : Option Bool := if (a0.length : Int) > 14 then ((steeplelaw04_awake.f k).bind fun r0 => some r0) else (span_Point.f k a0 a2).bind fun r1 => (steeplelaw01_Ref.f k a0).bind fun r2 => (steepleref04_Point.f k r2 a2).bind fun r3 => if r1.f0 = r3.f0 ∧ r1.f1 = r3.f1 then steeplelaw04_SpanSolves.l7 k a0 0 a1.f0 a1.f1 r1.f0 r1.f1 else some false
def steeplelaw04_SpanSolves.sig (k : Nat) : Sig E.toTys := ⟨[.slice (.st 0), .st 0, .int .i64], [(false, .bool)], none, fun x => f k x.1 x.2.1 x.2.2.1⟩
noncomputable def steeplelaw04_SpanSolves.body : Code := Try.f5.body.getD .skip
def steeplelaw04_SpanSolves.calls (k : Nat) : List (Nat × Sig E.toTys) := [(13, steeplelaw04_awake.sig k), (24, span_Point.sig k), (15, steeplelaw01_Ref.sig k), (25, steepleref04_Point.sig k), (26, span_Solve.sig k), (27, steepleref04_Solve.sig k), (28, tower_Add.sig k)]
def steeplelaw04_SpanSolves.cuts : List (Cut E (RT E.toTys [(false, .bool)])) := [⟨true, 7, ⟨cat [.one (.val (.slice (.st 0)))] (cat (ds 3) (cat [.one (.ptr 0 0)] (cat (ds 2) (cat [.one (.ptr 1 0), .one (.val (.int .i64))] (ds 93))))), [.var [.val (.int .u64), .val (.int .u64)], .var [.val (.int .u64), .val (.int .u64)]], false⟩, fun k x => steeplelaw04_SpanSolves.l7 k x.1.1 x.1.2.1 x.2.1.1 x.2.1.2.1 x.2.2.1.1 x.2.2.1.2.1⟩,
  ⟨true, 16, ⟨cat [.one (.val (.slice (.st 0)))] (cat (ds 3) (cat [.one (.ptr 0 0)] (cat (ds 2) (cat [.one (.ptr 1 0), .one (.val (.int .i64)), .one (.ptr 2 0), .one (.ref 3), .one (.val (.bool)), .one (.ref 4)] (cat (ds 1) (cat [.one (.ptr 5 0), .one (.val (.int .i64))] (ds 86))))))), [.var [.val (.int .u64), .val (.int .u64)], .var [.val (.int .u64), .val (.int .u64)], .var [.val (.int .u64), .val (.int .u64)], .arr (.bool), .arr (.bool), .var [.val (.int .u64), .val (.int .u64)]], false⟩, fun k x => steeplelaw04_SpanSolves.l16 k x.1.1 x.1.2.1 x.1.2.2.1 x.1.2.2.2.1 x.2.1.1 x.2.1.2.1 x.2.2.1.1 x.2.2.1.2.1 x.2.2.2.1.1 x.2.2.2.1.2.1 x.2.2.2.2.1 x.2.2.2.2.2.1 x.2.2.2.2.2.2.1.1 x.2.2.2.2.2.2.1.2.1⟩,
  ⟨false, 8, ⟨cat [.one (.val (.slice (.st 0)))] (cat (ds 3) (cat [.one (.ptr 0 0)] (cat (ds 2) (cat [.one (.ptr 1 0), .one (.val (.int .i64))] (ds 93))))), [.var [.val (.int .u64), .val (.int .u64)], .var [.val (.int .u64), .val (.int .u64)]], false⟩, fun k x => steeplelaw04_SpanSolves.j8 k x.1.1 x.1.2.1 x.2.1.1 x.2.1.2.1 x.2.2.1.1 x.2.2.1.2.1⟩]
theorem steeplelaw04_SpanSolves.ok (k : Nat) : Okf (XR E) Try.prog 5 (steeplelaw04_SpanSolves.sig k) := ⟨fn_ok (C := fun k => tab.ctx fun f => lk f (steeplelaw04_SpanSolves.calls k)) (fun k => tie _) k (fun j hj => calls_ok (kc (steeplelaw04_awake.ok j) (kc (span_Point.ok j) (kc (steeplelaw01_Ref.ok j) (kc (steepleref04_Point.ok j) (kc (span_Solve.ok j) (kc (steepleref04_Solve.ok j) (kc (tower_Add.ok j) (kn))))))))) 400 Try.func5 (body := steeplelaw04_SpanSolves.body) (res := [.tmp 6]) rfl (by kernel_rfl) steeplelaw04_SpanSolves.cuts (kc ⟨by kernel_rfl, rfl, fun _ => rfl, fun _ _ => by kernel_rfl⟩ (kc ⟨by kernel_rfl, rfl, fun _ => rfl, fun _ _ => by kernel_rfl⟩ (kc ⟨by kernel_rfl, rfl, fun _ => rfl, fun _ _ => by kernel_rfl⟩ (kn)))) (fun x => by kernel_rfl), _, Try.func5, by kernel_rfl, by kernel_rfl⟩
/-! ### steeple/span.Back: function 29 -/
mutual
def span_Back.l7 : Nat → List S25 → Int → Int → List S25 → Option ((List S25) × Int)
  | 0, _, _, _, _ => none
  | k + 1, x0, x1, x2, x3 => if x2 < x1 then ((tower_Bit.f k x2).bind fun r1 => (span_Solve.f k x0 r1).bind fun r2 => if (!r2.2) = true then some ([], 7) else span_Back.l14 k x0 x1 x2 (r2.1.length : Int) 0 x3 0 0 r2.1) else some (x3, 0)
def span_Back.l14 : Nat → List S25 → Int → Int → Int → Int → List S25 → Int → Int → List Bool → Option ((List S25) × Int)
  | 0, _, _, _, _, _, _, _, _, _ => none
  | k + 1, x0, x1, x2, x3, x4, x5, x6, x7, x8 => if x4 < x3 then (if 0 ≤ x4 then (if x4 < (x8.length : Int) then (if (rdB x8 x4) = true then ((tower_Bit.f k x4).bind fun r3 => (tower_Add.f k (⟨x6, x7⟩ : S25) r3).bind fun r4 => span_Back.l14 k x0 x1 x2 x3 (wrap64 (x4 + 1)) x5 r4.f0 r4.f1 x8) else span_Back.l14 k x0 x1 x2 x3 (wrap64 (x4 + 1)) x5 x6 x7 x8) else none) else none) else if x5.length + [(⟨x6, x7⟩ : S25)].length ≤ 140737488355328 / 16 then span_Back.l7 k x0 x1 (wrap64 (x2 + 1)) (x5 ++ [(⟨x6, x7⟩ : S25)]) else none
end
def span_Back.f (k : Nat) (a0 : List S25) : Option ((List S25) × Int) := if (a0.length : Int) > 128 then some ([], 1) else (span_within.f k a0 (a0.length : Int)).bind fun r0 => if (!r0) = true then some ([], 6) else span_Back.l7 k a0 (a0.length : Int) 0 []
def span_Back.sig (k : Nat) : Sig E.toTys := ⟨[.slice (.st 0)], [(true, .slice (.st 0)), (false, .int .i64)], none, fun x => f k x.1⟩
noncomputable def span_Back.body : Code := Try.f29.body.getD .skip
def span_Back.calls (k : Nat) : List (Nat × Sig E.toTys) := [(64, span_within.sig k), (32, tower_Bit.sig k), (26, span_Solve.sig k), (28, tower_Add.sig k)]
def span_Back.cuts : List (Cut E (RT E.toTys [(true, .slice (.st 0)), (false, .int .i64)])) := [⟨true, 7, ⟨cat [.one (.val (.slice (.st 0)))] (cat (ds 3) (cat [.one (.ref 0)] (cat (ds 17) (cat [.one (.val (.int .i64)), .one (.val (.int .i64))] (ds 30))))), [.arr (.st 0)], false⟩, fun k x => span_Back.l7 k x.1.1 x.1.2.1 x.1.2.2.1 x.2.1⟩,
  ⟨true, 14, ⟨cat [.one (.val (.slice (.st 0)))] (cat (ds 3) (cat [.one (.ref 0)] (cat (ds 3) (cat [.one (.ptr 1 0)] (cat (ds 13) (cat [.one (.val (.int .i64)), .one (.val (.int .i64))] (cat (ds 11) (cat [.one (.ref 2), .one (.val (.int .i64)), .one (.val (.int .i64))] (ds 16))))))))), [.arr (.st 0), .var [.val (.int .u64), .val (.int .u64)], .arr (.bool)], false⟩, fun k x => span_Back.l14 k x.1.1 x.1.2.1 x.1.2.2.1 x.1.2.2.2.1 x.1.2.2.2.2.1 x.2.1 x.2.2.1.1 x.2.2.1.2.1 x.2.2.2.1⟩]
theorem span_Back.ok (k : Nat) : Okf (XR E) Try.prog 29 (span_Back.sig k) := ⟨fn_ok (C := fun k => tab.ctx fun f => lk f (span_Back.calls k)) (fun k => tie _) k (fun j hj => calls_ok (kc (span_within.ok j) (kc (tower_Bit.ok j) (kc (span_Solve.ok j) (kc (tower_Add.ok j) (kn)))))) 400 Try.func29 (body := span_Back.body) (res := [.tmp 2, .tmp 3]) rfl (by kernel_rfl) span_Back.cuts (kc ⟨by kernel_rfl, rfl, fun _ => rfl, fun _ _ => by kernel_rfl⟩ (kc ⟨by kernel_rfl, rfl, fun _ => rfl, fun _ _ => by kernel_rfl⟩ (kn))) (fun x => by kernel_rfl), _, Try.func29, by kernel_rfl, by kernel_rfl⟩
/-! ### steeple/steepleref04.fits: function 65 -/
def steepleref04_fits.l2 : Nat → List S30 → Int → Int → Option Bool
  | 0, _, _, _ => none
  | k + 1, x0, x1, x2 => if x2 < (x0.length : Int) then (if 0 ≤ x2 then (if x2 < (x0.length : Int) then ((steepleref04_Lead.f k (rd30 x0 x2)).bind fun r0 => if r0 ≥ x1 then some false else steepleref04_fits.l2 k x0 x1 (wrap64 (x2 + 1))) else none) else none) else some true
def steepleref04_fits.f (k : Nat) (a0 : List S30) (a1 : Int) : Option Bool := steepleref04_fits.l2 k a0 a1 0
def steepleref04_fits.sig (k : Nat) : Sig E.toTys := ⟨[.slice (.st 1), .int .i64], [(false, .bool)], none, fun x => f k x.1 x.2.1⟩
noncomputable def steepleref04_fits.body : Code := Try.f65.body.getD .skip
def steepleref04_fits.calls (k : Nat) : List (Nat × Sig E.toTys) := [(22, steepleref04_Lead.sig k)]
def steepleref04_fits.cuts : List (Cut E (RT E.toTys [(false, .bool)])) := [⟨true, 2, ⟨cat [.one (.val (.slice (.st 1))), .one (.val (.int .i64))] (cat (ds 3) (cat [.one (.val (.int .i64))] (ds 13))), [], false⟩, fun k x => steepleref04_fits.l2 k x.1.1 x.1.2.1 x.1.2.2.1⟩]
theorem steepleref04_fits.ok (k : Nat) : Okf (XR E) Try.prog 65 (steepleref04_fits.sig k) := ⟨fn_ok (C := fun k => tab.ctx fun f => lk f (steepleref04_fits.calls k)) (fun k => tie _) k (fun j hj => calls_ok (kc (steepleref04_Lead.ok j) (kn))) 400 Try.func65 (body := steepleref04_fits.body) (res := [.tmp 4]) rfl (by kernel_rfl) steepleref04_fits.cuts (kc ⟨by kernel_rfl, rfl, fun _ => rfl, fun _ _ => by kernel_rfl⟩ (kn)) (fun x => by kernel_rfl), _, Try.func65, by kernel_rfl, by kernel_rfl⟩
/-! ### steeple/steepleref04.CanBack: function 30 -/
def steepleref04_CanBack.f (k : Nat) (a0 : List S30) : Option Int := if (a0.length : Int) > 128 then some 1 else (steepleref04_fits.f k a0 (a0.length : Int)).bind fun r0 => if (!r0) = true then some 6 else (steepleref04_Basis.f k a0).bind fun r1 => if (r1.length : Int) = (a0.length : Int) then some 0 else some 7
def steepleref04_CanBack.sig (k : Nat) : Sig E.toTys := ⟨[.slice (.st 1)], [(false, .int .i64)], none, fun x => f k x.1⟩
noncomputable def steepleref04_CanBack.body : Code := Try.f30.body.getD .skip
def steepleref04_CanBack.calls (k : Nat) : List (Nat × Sig E.toTys) := [(65, steepleref04_fits.sig k), (14, steepleref04_Basis.sig k)]
def steepleref04_CanBack.cuts : List (Cut E (RT E.toTys [(false, .int .i64)])) := []
theorem steepleref04_CanBack.ok (k : Nat) : Okf (XR E) Try.prog 30 (steepleref04_CanBack.sig k) := ⟨fn_ok (C := fun k => tab.ctx fun f => lk f (steepleref04_CanBack.calls k)) (fun k => tie _) k (fun j hj => calls_ok (kc (steepleref04_fits.ok j) (kc (steepleref04_Basis.ok j) (kn)))) 400 Try.func30 (body := steepleref04_CanBack.body) (res := [.tmp 2]) rfl (by kernel_rfl) steepleref04_CanBack.cuts (kn) (fun x => by kernel_rfl), _, Try.func30, by kernel_rfl, by kernel_rfl⟩
/-! ### steeple/span.make1: function 66 -/
def span_make1.l3 : Nat → List S25 → Int → Int → Int → Int → Int → Int → Int → Int → Option S25
  | 0, _, _, _, _, _, _, _, _, _ => none
  | k + 1, x0, x1, x2, x3, x4, x5, x6, x7, x8 => if x2 < x1 then (if 0 ≤ x2 then (if x2 < (x0.length : Int) then ((span_has.f k (⟨x3, x4⟩ : S25) x2).bind fun r0 => if r0 = true then ((tower_Add.f k (⟨x7, x8⟩ : S25) (rd25 x0 x2)).bind fun r1 => span_make1.l3 k x0 x1 (wrap64 (x2 + 1)) x3 x4 x5 x6 r1.f0 r1.f1) else span_make1.l3 k x0 x1 (wrap64 (x2 + 1)) x3 x4 x5 x6 x7 x8) else none) else none) else some (⟨x7, x8⟩ : S25)
def span_make1.f (k : Nat) (a0 : List S25) (a1 : S25) : Option S25 := span_make1.l3 k a0 (a0.length : Int) 0 a1.f0 a1.f1 0 0 0 0
def span_make1.sig (k : Nat) : Sig E.toTys := ⟨[.slice (.st 0), .st 0], [(false, .st 0)], none, fun x => f k x.1 x.2.1⟩
noncomputable def span_make1.body : Code := Try.f66.body.getD .skip
def span_make1.calls (k : Nat) : List (Nat × Sig E.toTys) := [(61, span_has.sig k), (28, tower_Add.sig k)]
def span_make1.cuts : List (Cut E (RT E.toTys [(false, .st 0)])) := [⟨true, 3, ⟨cat (ds 3) (cat [.one (.ptr 0 0), .one (.ptr 1 0), .one (.ptr 2 0)] (cat (ds 2) (cat [.one (.val (.slice (.st 0))), .one (.val (.int .i64)), .one (.val (.int .i64))] (ds 12)))), [.var [.val (.int .u64), .val (.int .u64)], .var [.val (.int .u64), .val (.int .u64)], .var [.val (.int .u64), .val (.int .u64)]], false⟩, fun k x => span_make1.l3 k x.1.1 x.1.2.1 x.1.2.2.1 x.2.1.1 x.2.1.2.1 x.2.2.1.1 x.2.2.1.2.1 x.2.2.2.1.1 x.2.2.2.1.2.1⟩]
theorem span_make1.ok (k : Nat) : Okf (XR E) Try.prog 66 (span_make1.sig k) := ⟨fn_ok (C := fun k => tab.ctx fun f => lk f (span_make1.calls k)) (fun k => tie _) k (fun j hj => calls_ok (kc (span_has.ok j) (kc (tower_Add.ok j) (kn)))) 400 Try.func66 (body := span_make1.body) (res := [.cell 4 25]) rfl (by kernel_rfl) span_make1.cuts (kc ⟨by kernel_rfl, rfl, fun _ => rfl, fun _ _ => by kernel_rfl⟩ (kn)) (fun x => by kernel_rfl), _, Try.func66, by kernel_rfl, by kernel_rfl⟩
/-! ### steeple/span.Apply: function 31 -/
def span_Apply.f (k : Nat) (a0 : List S25) (a1 : S25) : Option (S25 × Int) := if (a0.length : Int) > 128 then some ((⟨0, 0⟩ : S25), 1) else (span_lead.f k a1).bind fun r0 => if r0 ≥ (a0.length : Int) then some ((⟨0, 0⟩ : S25), 6) else (span_make1.f k a0 a1).bind fun r1 => some (r1, 0)
def span_Apply.sig (k : Nat) : Sig E.toTys := ⟨[.slice (.st 0), .st 0], [(false, .st 0), (false, .int .i64)], none, fun x => f k x.1 x.2.1⟩
noncomputable def span_Apply.body : Code := Try.f31.body.getD .skip
def span_Apply.calls (k : Nat) : List (Nat × Sig E.toTys) := [(62, span_lead.sig k), (66, span_make1.sig k)]
def span_Apply.cuts : List (Cut E (RT E.toTys [(false, .st 0), (false, .int .i64)])) := []
theorem span_Apply.ok (k : Nat) : Okf (XR E) Try.prog 31 (span_Apply.sig k) := ⟨fn_ok (C := fun k => tab.ctx fun f => lk f (span_Apply.calls k)) (fun k => tie _) k (fun j hj => calls_ok (kc (span_lead.ok j) (kc (span_make1.ok j) (kn)))) 400 Try.func31 (body := span_Apply.body) (res := [.cell 4 25, .tmp 5]) rfl (by kernel_rfl) span_Apply.cuts (kn) (fun x => by kernel_rfl), _, Try.func31, by kernel_rfl, by kernel_rfl⟩
/-! ### steeple/steeplelaw04.SpanBacks: function 6 -/
mutual
def steeplelaw04_SpanBacks.j2 : Nat → Option Bool
  | 0 => none
  | k + 1 => (steeplelaw04_awake.f k).bind fun r0 => some r0
def steeplelaw04_SpanBacks.j3 : Nat → List S25 → Option Bool
  | 0, _ => none
  | k + 1, x0 => (span_Back.f k x0).bind fun r1 => (steeplelaw01_Ref.f k x0).bind fun r2 => (steepleref04_CanBack.f k r2).bind fun r3 => if r1.2 = r3 then (if r1.2 = 0 then steeplelaw04_SpanBacks.l9 k x0 0 r1.1 else (steeplelaw04_awake.f k).bind fun r4 => if r4 = true then some (decide ((r1.1.length : Int) = 0)) else some false) else some false
def steeplelaw04_SpanBacks.l9 : Nat → List S25 → Int → List S25 → Option Bool
  | 0, _, _, _ => none
  | k + 1, x0, x1, x2 => if x1 < (x0.length : Int) then (if 0 ≤ x1 then (if x1 < (x0.length : Int) then ((span_Apply.f k x2 (rd25 x0 x1)).bind fun r5 => (tower_Bit.f k x1).bind fun r6 => (span_Apply.f k x2 r6).bind fun r7 => (span_Apply.f k x0 r7.1).bind fun r8 => if r5.2 = 0 then (if r7.2 = 0 then (if r8.2 = 0 then ((tower_Bit.f k x1).bind fun r9 => if r5.1.f0 = r9.f0 ∧ r5.1.f1 = r9.f1 then ((tower_Bit.f k x1).bind fun r10 => if r8.1.f0 = r10.f0 ∧ r8.1.f1 = r10.f1 then steeplelaw04_SpanBacks.l9 k x0 (wrap64 (x1 + 1)) x2 else steeplelaw04_SpanBacks.j15 k) else steeplelaw04_SpanBacks.j15 k) else steeplelaw04_SpanBacks.j15 k) else steeplelaw04_SpanBacks.j15 k) else steeplelaw04_SpanBacks.j15 k) else none) else none) else (steeplelaw04_awake.f k).bind fun r11 => if r11 = true then some (decide ((x2.length : Int) = (x0.length : Int))) else some false
def steeplelaw04_SpanBacks.j15 : Nat → Option Bool
  | 0 => none
  | k + 1 => some false
end
def steeplelaw04_SpanBacks.f (k : Nat) (a0 : List S25) : Option Bool := if (a0.length : Int) > 20 then (if (a0.length : Int) ≤ 128 then steeplelaw04_SpanBacks.j2 k else if (a0.length : Int) > 200 then steeplelaw04_SpanBacks.j2 k else steeplelaw04_SpanBacks.j3 k a0) else if (a0.length : Int) > 200 then steeplelaw04_SpanBacks.j2 k else steeplelaw04_SpanBacks.j3 k a0
def steeplelaw04_SpanBacks.sig (k : Nat) : Sig E.toTys := ⟨[.slice (.st 0)], [(false, .bool)], none, fun x => f k x.1⟩
noncomputable def steeplelaw04_SpanBacks.body : Code := Try.f6.body.getD .skip
def steeplelaw04_SpanBacks.calls (k : Nat) : List (Nat × Sig E.toTys) := [(13, steeplelaw04_awake.sig k), (29, span_Back.sig k), (15, steeplelaw01_Ref.sig k), (30, steepleref04_CanBack.sig k), (31, span_Apply.sig k), (32, tower_Bit.sig k)]
def steeplelaw04_SpanBacks.cuts : List (Cut E (RT E.toTys [(false, .bool)])) := [⟨false, 2, ⟨ds 102, [], false⟩, fun k x => steeplelaw04_SpanBacks.j2 k⟩,
  ⟨false, 3, ⟨cat [.one (.val (.slice (.st 0)))] (ds 101), [], false⟩, fun k x => steeplelaw04_SpanBacks.j3 k x.1.1⟩,
  ⟨true, 9, ⟨cat [.one (.val (.slice (.st 0)))] (cat (ds 2) (cat [.one (.ref 0)] (cat (ds 1) (cat [.one (.val (.int .i64))] (ds 96))))), [.arr (.st 0)], false⟩, fun k x => steeplelaw04_SpanBacks.l9 k x.1.1 x.1.2.1 x.2.1⟩,
  ⟨false, 15, ⟨ds 102, [], false⟩, fun k x => steeplelaw04_SpanBacks.j15 k⟩]
theorem steeplelaw04_SpanBacks.ok (k : Nat) : Okf (XR E) Try.prog 6 (steeplelaw04_SpanBacks.sig k) := ⟨fn_ok (C := fun k => tab.ctx fun f => lk f (steeplelaw04_SpanBacks.calls k)) (fun k => tie _) k (fun j hj => calls_ok (kc (steeplelaw04_awake.ok j) (kc (span_Back.ok j) (kc (steeplelaw01_Ref.ok j) (kc (steepleref04_CanBack.ok j) (kc (span_Apply.ok j) (kc (tower_Bit.ok j) (kn)))))))) 400 Try.func6 (body := steeplelaw04_SpanBacks.body) (res := [.tmp 2]) rfl (by kernel_rfl) steeplelaw04_SpanBacks.cuts (kc ⟨by kernel_rfl, rfl, fun _ => rfl, fun _ _ => by kernel_rfl⟩ (kc ⟨by kernel_rfl, rfl, fun _ => rfl, fun _ _ => by kernel_rfl⟩ (kc ⟨by kernel_rfl, rfl, fun _ => rfl, fun _ _ => by kernel_rfl⟩ (kc ⟨by kernel_rfl, rfl, fun _ => rfl, fun _ _ => by kernel_rfl⟩ (kn))))) (fun x => by kernel_rfl), _, Try.func6, by kernel_rfl, by kernel_rfl⟩
/-! ### steeple/octet.Wide: function 73 -/
def octet_Wide.f (k : Nat) (a0 : Int) : Option Int := if a0 < 0 then some 0 else if a0 > 7 then some 0 else if a0 ≤ 3 then some 1 else if 0 ≤ wrap64 (a0 - 3) then some (shl .i64 1 (wrap64 (a0 - 3))) else none
def octet_Wide.sig (k : Nat) : Sig E.toTys := ⟨[.int .i64], [(false, .int .i64)], none, fun x => f k x.1⟩
noncomputable def octet_Wide.body : Code := Try.f73.body.getD .skip
def octet_Wide.calls (k : Nat) : List (Nat × Sig E.toTys) := []
def octet_Wide.cuts : List (Cut E (RT E.toTys [(false, .int .i64)])) := []
theorem octet_Wide.ok (k : Nat) : Okf (XR E) Try.prog 73 (octet_Wide.sig k) := ⟨fn_ok (C := fun k => tab.ctx fun f => lk f (octet_Wide.calls k)) (fun k => tie _) k (fun j hj => calls_ok (kn)) 400 Try.func73 (body := octet_Wide.body) (res := [.tmp 2]) rfl (by kernel_rfl) octet_Wide.cuts (kn) (fun x => by kernel_rfl), _, Try.func73, by kernel_rfl, by kernel_rfl⟩
/-! ### steeple/octet.Of: function 67 -/
def octet_Of.f (k : Nat) (a0 : Int) (a1 : S25) : Option Bool := if a0 < 0 then some false else if a0 > 7 then some false else if a0 = 7 then some true else if a0 = 6 then some (decide (a1.f0 = 0)) else if a1.f0 = 0 then (if 0 ≤ a0 then (if 0 ≤ shl .u64 1 a0 then some (decide (shr .u64 a1.f1 (shl .u64 1 a0) = 0)) else none) else none) else some false
def octet_Of.sig (k : Nat) : Sig E.toTys := ⟨[.int .i64, .st 0], [(false, .bool)], none, fun x => f k x.1 x.2.1⟩
noncomputable def octet_Of.body : Code := Try.f67.body.getD .skip
def octet_Of.calls (k : Nat) : List (Nat × Sig E.toTys) := []
def octet_Of.cuts : List (Cut E (RT E.toTys [(false, .bool)])) := []
theorem octet_Of.ok (k : Nat) : Okf (XR E) Try.prog 67 (octet_Of.sig k) := ⟨fn_ok (C := fun k => tab.ctx fun f => lk f (octet_Of.calls k)) (fun k => tie _) k (fun j hj => calls_ok (kn)) 400 Try.func67 (body := octet_Of.body) (res := [.tmp 4]) rfl (by kernel_rfl) octet_Of.cuts (kn) (fun x => by kernel_rfl), _, Try.func67, by kernel_rfl, by kernel_rfl⟩
/-! ### steeple/linpoly.New$1: function 75 -/
def linpoly_New_1.f (k : Nat) (a0 : S25) (a1 : Option Int) : Option Bool := (match a1 with | none => none | some r0 => (octet_Of.f k r0 a0).bind fun r1 => some (!r1))
def linpoly_New_1.sig (k : Nat) : Sig E.toTys := ⟨[.st 0, .ptr (.int .i64)], [(false, .bool)], none, fun x => f k x.1 x.2.1⟩
noncomputable def linpoly_New_1.body : Code := Try.f75.body.getD .skip
def linpoly_New_1.calls (k : Nat) : List (Nat × Sig E.toTys) := [(67, octet_Of.sig k)]
def linpoly_New_1.cuts : List (Cut E (RT E.toTys [(false, .bool)])) := []
theorem linpoly_New_1.ok (k : Nat) : Okf (XR E) Try.prog 75 (linpoly_New_1.sig k) := ⟨fn_ok (C := fun k => tab.ctx fun f => lk f (linpoly_New_1.calls k)) (fun k => tie _) k (fun j hj => calls_ok (kc (octet_Of.ok j) (kn))) 400 Try.func75 (body := linpoly_New_1.body) (res := [.tmp 3]) rfl (by kernel_rfl) linpoly_New_1.cuts (kn) (fun x => by kernel_rfl), _, Try.func75, by kernel_rfl, by kernel_rfl⟩
/-! ### slices.IndexFunc: function 86 -/
def slices_IndexFunc86_c75.l2 : Nat → List S25 → Int → Int → Int → Option Int
  | 0, _, _, _, _ => none
  | k + 1, x0, x1, x2, x3 => if x3 < x2 then (if 0 ≤ x3 then (if x3 < (x0.length : Int) then ((linpoly_New_1.f k (rd25 x0 x3) (some x1)).bind fun r0 => if r0 = true then some x3 else slices_IndexFunc86_c75.l2 k x0 x1 x2 (wrap64 (x3 + 1))) else none) else none) else some (-1)
def slices_IndexFunc86_c75.f (k : Nat) (a0 : List S25) (a1 : Int) : Option Int := slices_IndexFunc86_c75.l2 k a0 a1 (a0.length : Int) 0
def slices_IndexFunc86_c75.sig (k : Nat) : Sig E.toTys := ⟨[.slice (.st 0), .ext 75 (.int .i64)], [(false, .int .i64)], none, fun x => f k x.1 x.2.1⟩
noncomputable def slices_IndexFunc86_c75.body : Code := Try.f86.body.getD .skip
def slices_IndexFunc86_c75.calls (k : Nat) : List (Nat × Sig E.toTys) := [(75, linpoly_New_1.sig k)]
def slices_IndexFunc86_c75.cuts : List (Cut E (RT E.toTys [(false, .int .i64)])) := [⟨true, 2, ⟨cat [.one (.val (.slice (.st 0))), .one (.val (.ext 75 (.int .i64)))] (cat (ds 5) (cat [.one (.val (.int .i64)), .one (.val (.int .i64))] (ds 10))), [], false⟩, fun k x => slices_IndexFunc86_c75.l2 k x.1.1 x.1.2.1 x.1.2.2.1 x.1.2.2.2.1⟩]
theorem slices_IndexFunc86_c75.ok (k : Nat) : Okf (XR E) Try.prog 86 (slices_IndexFunc86_c75.sig k) := ⟨fn_ok (C := fun k => tab.ctx fun f => lk f (slices_IndexFunc86_c75.calls k)) (fun k => tie _) k (fun j hj => calls_ok (kc (linpoly_New_1.ok j) (kn))) 400 Try.func86 (body := slices_IndexFunc86_c75.body) (res := [.tmp 4]) rfl (by kernel_rfl) slices_IndexFunc86_c75.cuts (kc ⟨by kernel_rfl, rfl, fun _ => rfl, fun _ _ => by kernel_rfl⟩ (kn)) (fun x => by kernel_rfl), _, Try.func86, by kernel_rfl, by kernel_rfl⟩
/-! ### slices.ContainsFunc: function 74 -/
def slices_ContainsFunc74_c75.f (k : Nat) (a0 : List S25) (a1 : Int) : Option Bool := (slices_IndexFunc86_c75.f k a0 a1).bind fun r0 => some (decide (r0 ≥ 0))
def slices_ContainsFunc74_c75.sig (k : Nat) : Sig E.toTys := ⟨[.slice (.st 0), .ext 75 (.int .i64)], [(false, .bool)], none, fun x => f k x.1 x.2.1⟩
noncomputable def slices_ContainsFunc74_c75.body : Code := Try.f74.body.getD .skip
def slices_ContainsFunc74_c75.calls (k : Nat) : List (Nat × Sig E.toTys) := [(86, slices_IndexFunc86_c75.sig k)]
def slices_ContainsFunc74_c75.cuts : List (Cut E (RT E.toTys [(false, .bool)])) := []
theorem slices_ContainsFunc74_c75.ok (k : Nat) : Okf (XR E) Try.prog 74 (slices_ContainsFunc74_c75.sig k) := ⟨fn_ok (C := fun k => tab.ctx fun f => lk f (slices_ContainsFunc74_c75.calls k)) (fun k => tie _) k (fun j hj => calls_ok (kc (slices_IndexFunc86_c75.ok j) (kn))) 400 Try.func74 (body := slices_ContainsFunc74_c75.body) (res := [.tmp 4]) rfl (by kernel_rfl) slices_ContainsFunc74_c75.cuts (kn) (fun x => by kernel_rfl), _, Try.func74, by kernel_rfl, by kernel_rfl⟩
/-! ### slices.Clone: function 76 -/
def slices_Clone76.f (k : Nat) (a0 : List S25) : Option (List S25) := if ([] : List Int).length + a0.length ≤ 140737488355328 / 16 then some ([] ++ a0) else none
def slices_Clone76.sig (k : Nat) : Sig E.toTys := ⟨[.slice (.st 0)], [(true, .slice (.st 0))], none, fun x => f k x.1⟩
noncomputable def slices_Clone76.body : Code := Try.f76.body.getD .skip
def slices_Clone76.calls (k : Nat) : List (Nat × Sig E.toTys) := []
def slices_Clone76.cuts : List (Cut E (RT E.toTys [(true, .slice (.st 0))])) := []
noncomputable def slices_Clone76.fn0 : Func := Try.f76
def slices_Clone76.st0 (xs : List S25) : St E.toTys := ⟨[.c (.s (.val (.slice (.st 0)) xs)), .c (.s .dead), .c (.s .emp), .c (.s .dead), .c (.s .dead), .c (.s .dead), .c (.s .dead), .c (.s .dead)], []⟩
theorem slices_Clone76.ok (k : Nat) : Okf (XR E) Try.prog 76 (slices_Clone76.sig k) := ⟨clone_ok (C := tab.ctx fun f => lk f (slices_Clone76.calls k)) (tie _) (calls_ok kn) (t := 22) (u := .st 0) Try.func76 rfl (res := [.tmp 2]) (by kernel_rfl) ⟨rfl, rfl, rfl⟩ ⟨rfl, rfl, rfl⟩ (by kernel_rfl) slices_Clone76.st0 (fun x => by kernel_rfl) (fun _ => rfl) (fun _ _ => ⟨rfl, rfl⟩) (F := fun x => slices_Clone76.f k x) (by kernel_rfl) (fun xs => by kernel_rfl), _, Try.func76, by kernel_rfl, by kernel_rfl⟩
/-! ### steeple/tower.halves: function 91 -/
def tower_halves.f (k : Nat) (a0 : Int) (a1 : Int) : Option (Int × Int) := if 0 ≤ wrap64 (a0 - 1) then (if 0 ≤ shl .i64 1 (wrap64 (a0 - 1)) then (if 0 ≤ shl .i64 1 (wrap64 (a0 - 1)) then some (shr .u64 a1 (shl .i64 1 (wrap64 (a0 - 1))), bits .and .u64 a1 (IntKind.u64.wrap ((shl .u64 1 (shl .i64 1 (wrap64 (a0 - 1)))) - 1))) else none) else none) else none
def tower_halves.sig (k : Nat) : Sig E.toTys := ⟨[.int .i64, .int .u64], [(false, .int .u64), (false, .int .u64)], none, fun x => f k x.1 x.2.1⟩
noncomputable def tower_halves.body : Code := Try.f91.body.getD .skip
def tower_halves.calls (k : Nat) : List (Nat × Sig E.toTys) := []
def tower_halves.cuts : List (Cut E (RT E.toTys [(false, .int .u64), (false, .int .u64)])) := []
theorem tower_halves.ok (k : Nat) : Okf (XR E) Try.prog 91 (tower_halves.sig k) := ⟨fn_ok (C := fun k => tab.ctx fun f => lk f (tower_halves.calls k)) (fun k => tie _) k (fun j hj => calls_ok (kn)) 400 Try.func91 (body := tower_halves.body) (res := [.tmp 4, .tmp 5]) rfl (by kernel_rfl) tower_halves.cuts (kn) (fun x => by kernel_rfl), _, Try.func91, by kernel_rfl, by kernel_rfl⟩
/-! ### steeple/tower.join: function 92 -/
def tower_join.f (k : Nat) (a0 : Int) (a1 : Int) (a2 : Int) : Option Int := if 0 ≤ wrap64 (a0 - 1) then (if 0 ≤ shl .u64 1 (wrap64 (a0 - 1)) then some (bits .or .u64 (shl .u64 a1 (shl .u64 1 (wrap64 (a0 - 1)))) a2) else none) else none
def tower_join.sig (k : Nat) : Sig E.toTys := ⟨[.int .i64, .int .u64, .int .u64], [(false, .int .u64)], none, fun x => f k x.1 x.2.1 x.2.2.1⟩
noncomputable def tower_join.body : Code := Try.f92.body.getD .skip
def tower_join.calls (k : Nat) : List (Nat × Sig E.toTys) := []
def tower_join.cuts : List (Cut E (RT E.toTys [(false, .int .u64)])) := []
theorem tower_join.ok (k : Nat) : Okf (XR E) Try.prog 92 (tower_join.sig k) := ⟨fn_ok (C := fun k => tab.ctx fun f => lk f (tower_join.calls k)) (fun k => tie _) k (fun j hj => calls_ok (kn)) 400 Try.func92 (body := tower_join.body) (res := [.tmp 6]) rfl (by kernel_rfl) tower_join.cuts (kn) (fun x => by kernel_rfl), _, Try.func92, by kernel_rfl, by kernel_rfl⟩
/-! ### steeple/tower.mulX: function 84 -/
def tower_mulX.f : Nat → Int → Int → Option Int
  | 0, _, _ => none
  | k + 1, a0, a1 => if a0 = 0 then some a1 else (tower_halves.f k a0 a1).bind fun r0 => (tower_mulX.f k (wrap64 (a0 - 1)) r0.1).bind fun r1 => (tower_join.f k a0 (bits .xor .u64 r0.2 r1) r0.1).bind fun r2 => some r2
def tower_mulX.sig (k : Nat) : Sig E.toTys := ⟨[.int .i64, .int .u64], [(false, .int .u64)], none, fun x => f k x.1 x.2.1⟩
noncomputable def tower_mulX.body : Code := Try.f84.body.getD .skip
def tower_mulX.calls (k : Nat) : List (Nat × Sig E.toTys) := [(91, tower_halves.sig k), (84, tower_mulX.sig k), (92, tower_join.sig k)]
def tower_mulX.cuts : List (Cut E (RT E.toTys [(false, .int .u64)])) := []
theorem tower_mulX.oks (k : Nat) : Okf (XR E) Try.prog 84 (tower_mulX.sig k) := by
  induction k using Nat.strongRecOn with
  | ind k ih =>
  cases k with
  | zero => exact ⟨ok0 fun _ => rfl, _, Try.func84, by kernel_rfl, by kernel_rfl⟩
  | succ k => exact ⟨fn_ok (C := fun k => tab.ctx fun f => lk f (tower_mulX.calls k)) (fun k => tie _) k (fun j hj => calls_ok (kc (tower_halves.ok j) (kc (ih j (Nat.lt_succ_of_le hj)) (kc (tower_join.ok j) (kn))))) 400 Try.func84 (body := tower_mulX.body) (res := [.tmp 4]) rfl (by kernel_rfl) tower_mulX.cuts (kn) (fun x => by kernel_rfl), _, Try.func84, by kernel_rfl, by kernel_rfl⟩
theorem tower_mulX.ok (k : Nat) : Okf (XR E) Try.prog 84 (tower_mulX.sig k) := (tower_mulX.oks k)
/-! ### steeple/tower.mul: function 83 -/
mutual
def tower_mul.j2 : Nat → Int → Int → Option Int
  | 0, _, _ => none
  | k + 1, x0, x1 => some (bits .and .u64 (bits .and .u64 x0 x1) 1)
def tower_mul.f : Nat → Int → Int → Int → Option Int
  | 0, _, _, _ => none
  | k + 1, a0, a1, a2 => if a0 = 0 then tower_mul.j2 k a1 a2 else if a1 = 0 then tower_mul.j2 k a1 a2 else if a2 = 0 then tower_mul.j2 k a1 a2 else (tower_halves.f k a0 a1).bind fun r0 => (tower_halves.f k a0 a2).bind fun r1 => (tower_mul.f k (wrap64 (a0 - 1)) r0.1 r1.1).bind fun r2 => (tower_mul.f k (wrap64 (a0 - 1)) r0.2 r1.2).bind fun r3 => (tower_mul.f k (wrap64 (a0 - 1)) (bits .xor .u64 r0.1 r0.2) (bits .xor .u64 r1.1 r1.2)).bind fun r4 => (tower_mulX.f k (wrap64 (a0 - 1)) r2).bind fun r5 => (tower_join.f k a0 (bits .xor .u64 (bits .xor .u64 (bits .xor .u64 r4 r2) r3) r5) (bits .xor .u64 r3 r2)).bind fun r6 => some r6
end
def tower_mul.sig (k : Nat) : Sig E.toTys := ⟨[.int .i64, .int .u64, .int .u64], [(false, .int .u64)], none, fun x => f k x.1 x.2.1 x.2.2.1⟩
noncomputable def tower_mul.body : Code := Try.f83.body.getD .skip
def tower_mul.calls (k : Nat) : List (Nat × Sig E.toTys) := [(91, tower_halves.sig k), (83, tower_mul.sig k), (84, tower_mulX.sig k), (92, tower_join.sig k)]
def tower_mul.cuts : List (Cut E (RT E.toTys [(false, .int .u64)])) := [⟨false, 2, ⟨cat (ds 1) (cat [.one (.val (.int .u64)), .one (.val (.int .u64))] (ds 71)), [], false⟩, fun k x => tower_mul.j2 k x.1.1 x.1.2.1⟩]
theorem tower_mul.oks (k : Nat) : Okf (XR E) Try.prog 83 (tower_mul.sig k) := by
  induction k using Nat.strongRecOn with
  | ind k ih =>
  cases k with
  | zero => exact ⟨ok0 fun _ => rfl, _, Try.func83, by kernel_rfl, by kernel_rfl⟩
  | succ k => exact ⟨fn_ok (C := fun k => tab.ctx fun f => lk f (tower_mul.calls k)) (fun k => tie _) k (fun j hj => calls_ok (kc (tower_halves.ok j) (kc (ih j (Nat.lt_succ_of_le hj)) (kc (tower_mulX.ok j) (kc (tower_join.ok j) (kn)))))) 400 Try.func83 (body := tower_mul.body) (res := [.tmp 6]) rfl (by kernel_rfl) tower_mul.cuts (kc ⟨by kernel_rfl, rfl, fun _ => rfl, fun _ _ => by kernel_rfl⟩ (kn)) (fun x => by kernel_rfl), _, Try.func83, by kernel_rfl, by kernel_rfl⟩
theorem tower_mul.ok (k : Nat) : Okf (XR E) Try.prog 83 (tower_mul.sig k) := (tower_mul.oks k)
/-! ### steeple/tower.Mul: function 69 -/
def tower_Mul.f (k : Nat) (a0 : Int) (a1 : S25) (a2 : S25) : Option S25 := (octet_Of.f k a0 a1).bind fun r0 => if (!r0) = true then some (⟨0, 0⟩ : S25) else (octet_Of.f k a0 a2).bind fun r1 => if (!r1) = true then some (⟨0, 0⟩ : S25) else if a0 ≤ 6 then ((tower_mul.f k a0 a1.f1 a2.f1).bind fun r2 => some (⟨0, r2⟩ : S25)) else (tower_mul.f k 6 a1.f0 a2.f0).bind fun r3 => (tower_mul.f k 6 a1.f1 a2.f1).bind fun r4 => (tower_mul.f k 6 (bits .xor .u64 a1.f0 a1.f1) (bits .xor .u64 a2.f0 a2.f1)).bind fun r5 => (tower_mulX.f k 6 r3).bind fun r6 => some (⟨bits .xor .u64 (bits .xor .u64 (bits .xor .u64 r5 r3) r4) r6, bits .xor .u64 r4 r3⟩ : S25)
def tower_Mul.sig (k : Nat) : Sig E.toTys := ⟨[.int .i64, .st 0, .st 0], [(false, .st 0)], none, fun x => f k x.1 x.2.1 x.2.2.1⟩
noncomputable def tower_Mul.body : Code := Try.f69.body.getD .skip
def tower_Mul.calls (k : Nat) : List (Nat × Sig E.toTys) := [(67, octet_Of.sig k), (83, tower_mul.sig k), (84, tower_mulX.sig k)]
def tower_Mul.cuts : List (Cut E (RT E.toTys [(false, .st 0)])) := []
theorem tower_Mul.ok (k : Nat) : Okf (XR E) Try.prog 69 (tower_Mul.sig k) := ⟨fn_ok (C := fun k => tab.ctx fun f => lk f (tower_Mul.calls k)) (fun k => tie _) k (fun j hj => calls_ok (kc (octet_Of.ok j) (kc (tower_mul.ok j) (kc (tower_mulX.ok j) (kn))))) 400 Try.func69 (body := tower_Mul.body) (res := [.cell 6 25]) rfl (by kernel_rfl) tower_Mul.cuts (kn) (fun x => by kernel_rfl), _, Try.func69, by kernel_rfl, by kernel_rfl⟩
/-! ### (*steeple/linpoly.Space).value: function 68 -/
def linpoly_Space_value.j2 : Nat → Option S102 → Int → Int → Int → Int → Int → Int → Option S25
  | 0, _, _, _, _, _, _, _ => none
  | k + 1, x0, x1, x2, x3, x4, x5, x6 => if x2 < x1 then ((match x0 with | none => none | some r0 => (match x0 with | none => none | some r1 => if 0 ≤ x2 then (if x2 < (r1.f2.length : Int) then ((tower_Add.f k (⟨x3, x4⟩ : S25) (rd25 r1.f2 x2)).bind fun r2 => (tower_Mul.f k r0.f0 (⟨x3, x4⟩ : S25) r2).bind fun r3 => linpoly_Space_value.j2 k x0 x1 (wrap64 (x2 + 1)) r3.f0 r3.f1 x5 x6) else none) else none))) else some (⟨x3, x4⟩ : S25)
def linpoly_Space_value.f (k : Nat) (a0 : Option S102) (a1 : Int) (a2 : S25) : Option S25 := linpoly_Space_value.j2 k a0 a1 0 a2.f0 a2.f1 0 0
def linpoly_Space_value.sig (k : Nat) : Sig E.toTys := ⟨[.ptr (.st 4), .int .i64, .st 0], [(false, .st 0)], none, fun x => f k x.1 x.2.1 x.2.2.1⟩
noncomputable def linpoly_Space_value.body : Code := Try.f68.body.getD .skip
def linpoly_Space_value.calls (k : Nat) : List (Nat × Sig E.toTys) := [(28, tower_Add.sig k), (69, tower_Mul.sig k)]
def linpoly_Space_value.cuts : List (Cut E (RT E.toTys [(false, .st 0)])) := [⟨false, 2, ⟨cat [.one (.val (.ptr (.st 4))), .one (.val (.int .i64))] (cat (ds 3) (cat [.one (.ptr 0 0), .one (.ptr 1 0), .one (.val (.int .i64))] (ds 21))), [.var [.val (.int .u64), .val (.int .u64)], .var [.val (.int .u64), .val (.int .u64)]], false⟩, fun k x => linpoly_Space_value.j2 k x.1.1 x.1.2.1 x.1.2.2.1 x.2.1.1 x.2.1.2.1 x.2.2.1.1 x.2.2.1.2.1⟩]
theorem linpoly_Space_value.ok (k : Nat) : Okf (XR E) Try.prog 68 (linpoly_Space_value.sig k) := ⟨fn_ok (C := fun k => tab.ctx fun f => lk f (linpoly_Space_value.calls k)) (fun k => tie _) k (fun j hj => calls_ok (kc (tower_Add.ok j) (kc (tower_Mul.ok j) (kn)))) 400 Try.func68 (body := linpoly_Space_value.body) (res := [.cell 6 25]) rfl (by kernel_rfl) linpoly_Space_value.cuts (kc ⟨by kernel_rfl, rfl, fun _ => rfl, fun _ _ => by kernel_rfl⟩ (kn)) (fun x => by kernel_rfl), _, Try.func68, by kernel_rfl, by kernel_rfl⟩
/-! ### steeple/tower.square: function 88 -/
def tower_square.f : Nat → Int → Int → Option Int
  | 0, _, _ => none
  | k + 1, a0, a1 => if a0 = 0 then some a1 else (tower_halves.f k a0 a1).bind fun r0 => (tower_square.f k (wrap64 (a0 - 1)) r0.1).bind fun r1 => (tower_mulX.f k (wrap64 (a0 - 1)) r1).bind fun r2 => (tower_square.f k (wrap64 (a0 - 1)) r0.2).bind fun r3 => (tower_join.f k a0 r2 (bits .xor .u64 r3 r1)).bind fun r4 => some r4
def tower_square.sig (k : Nat) : Sig E.toTys := ⟨[.int .i64, .int .u64], [(false, .int .u64)], none, fun x => f k x.1 x.2.1⟩
noncomputable def tower_square.body : Code := Try.f88.body.getD .skip
def tower_square.calls (k : Nat) : List (Nat × Sig E.toTys) := [(91, tower_halves.sig k), (88, tower_square.sig k), (84, tower_mulX.sig k), (92, tower_join.sig k)]
def tower_square.cuts : List (Cut E (RT E.toTys [(false, .int .u64)])) := []
theorem tower_square.oks (k : Nat) : Okf (XR E) Try.prog 88 (tower_square.sig k) := by
  induction k using Nat.strongRecOn with
  | ind k ih =>
  cases k with
  | zero => exact ⟨ok0 fun _ => rfl, _, Try.func88, by kernel_rfl, by kernel_rfl⟩
  | succ k => exact ⟨fn_ok (C := fun k => tab.ctx fun f => lk f (tower_square.calls k)) (fun k => tie _) k (fun j hj => calls_ok (kc (tower_halves.ok j) (kc (ih j (Nat.lt_succ_of_le hj)) (kc (tower_mulX.ok j) (kc (tower_join.ok j) (kn)))))) 400 Try.func88 (body := tower_square.body) (res := [.tmp 4]) rfl (by kernel_rfl) tower_square.cuts (kn) (fun x => by kernel_rfl), _, Try.func88, by kernel_rfl, by kernel_rfl⟩
theorem tower_square.ok (k : Nat) : Okf (XR E) Try.prog 88 (tower_square.sig k) := (tower_square.oks k)
/-! ### steeple/tower.inv: function 87 -/
def tower_inv.f : Nat → Int → Int → Option Int
  | 0, _, _ => none
  | k + 1, a0, a1 => if a0 = 0 then some a1 else (tower_halves.f k a0 a1).bind fun r0 => (tower_mulX.f k (wrap64 (a0 - 1)) r0.1).bind fun r1 => (tower_mul.f k (wrap64 (a0 - 1)) r0.2 (bits .xor .u64 r0.2 r1)).bind fun r2 => (tower_square.f k (wrap64 (a0 - 1)) r0.1).bind fun r3 => (tower_inv.f k (wrap64 (a0 - 1)) (bits .xor .u64 r2 r3)).bind fun r4 => (tower_mul.f k (wrap64 (a0 - 1)) r0.1 r4).bind fun r5 => (tower_mul.f k (wrap64 (a0 - 1)) (bits .xor .u64 r0.2 r1) r4).bind fun r6 => (tower_join.f k a0 r5 r6).bind fun r7 => some r7
def tower_inv.sig (k : Nat) : Sig E.toTys := ⟨[.int .i64, .int .u64], [(false, .int .u64)], none, fun x => f k x.1 x.2.1⟩
noncomputable def tower_inv.body : Code := Try.f87.body.getD .skip
def tower_inv.calls (k : Nat) : List (Nat × Sig E.toTys) := [(91, tower_halves.sig k), (84, tower_mulX.sig k), (83, tower_mul.sig k), (88, tower_square.sig k), (87, tower_inv.sig k), (92, tower_join.sig k)]
def tower_inv.cuts : List (Cut E (RT E.toTys [(false, .int .u64)])) := []
theorem tower_inv.oks (k : Nat) : Okf (XR E) Try.prog 87 (tower_inv.sig k) := by
  induction k using Nat.strongRecOn with
  | ind k ih =>
  cases k with
  | zero => exact ⟨ok0 fun _ => rfl, _, Try.func87, by kernel_rfl, by kernel_rfl⟩
  | succ k => exact ⟨fn_ok (C := fun k => tab.ctx fun f => lk f (tower_inv.calls k)) (fun k => tie _) k (fun j hj => calls_ok (kc (tower_halves.ok j) (kc (tower_mulX.ok j) (kc (tower_mul.ok j) (kc (tower_square.ok j) (kc (ih j (Nat.lt_succ_of_le hj)) (kc (tower_join.ok j) (kn)))))))) 400 Try.func87 (body := tower_inv.body) (res := [.tmp 4]) rfl (by kernel_rfl) tower_inv.cuts (kn) (fun x => by kernel_rfl), _, Try.func87, by kernel_rfl, by kernel_rfl⟩
theorem tower_inv.ok (k : Nat) : Okf (XR E) Try.prog 87 (tower_inv.sig k) := (tower_inv.oks k)
end Go.Proofs.Ytohlooljopjmjaa.B
namespace Go.Proofs.Ytohlooljopjmjaa.B
open Go.Proofs.Ytohlooljopjmjaa.V.B Go.RowKit
set_option linter.unusedVariables false
/-! ### steeple/tower.Inv: function 77 -/
def tower_Inv.f (k : Nat) (a0 : Int) (a1 : S25) : Option S25 := (octet_Of.f k a0 a1).bind fun r0 => if (!r0) = true then some (⟨0, 0⟩ : S25) else if a0 ≤ 6 then ((tower_inv.f k a0 a1.f1).bind fun r1 => some (⟨0, r1⟩ : S25)) else (tower_mulX.f k 6 a1.f0).bind fun r2 => (tower_mul.f k 6 a1.f1 (bits .xor .u64 a1.f1 r2)).bind fun r3 => (tower_square.f k 6 a1.f0).bind fun r4 => (tower_inv.f k 6 (bits .xor .u64 r3 r4)).bind fun r5 => (tower_mul.f k 6 a1.f0 r5).bind fun r6 => (tower_mul.f k 6 (bits .xor .u64 a1.f1 r2) r5).bind fun r7 => some (⟨r6, r7⟩ : S25)
def tower_Inv.sig (k : Nat) : Sig E.toTys := ⟨[.int .i64, .st 0], [(false, .st 0)], none, fun x => f k x.1 x.2.1⟩
noncomputable def tower_Inv.body : Code := Try.f77.body.getD .skip
def tower_Inv.calls (k : Nat) : List (Nat × Sig E.toTys) := [(67, octet_Of.sig k), (87, tower_inv.sig k), (84, tower_mulX.sig k), (83, tower_mul.sig k), (88, tower_square.sig k)]
def tower_Inv.cuts : List (Cut E (RT E.toTys [(false, .st 0)])) := []
theorem tower_Inv.ok (k : Nat) : Okf (XR E) Try.prog 77 (tower_Inv.sig k) := ⟨fn_ok (C := fun k => tab.ctx fun f => lk f (tower_Inv.calls k)) (fun k => tie _) k (fun j hj => calls_ok (kc (octet_Of.ok j) (kc (tower_inv.ok j) (kc (tower_mulX.ok j) (kc (tower_mul.ok j) (kc (tower_square.ok j) (kn))))))) 400 Try.func77 (body := tower_Inv.body) (res := [.cell 4 25]) rfl (by kernel_rfl) tower_Inv.cuts (kn) (fun x => by kernel_rfl), _, Try.func77, by kernel_rfl, by kernel_rfl⟩
/-! ### steeple/linpoly.New: function 42 -/
def linpoly_New.l11 : Nat → List S25 → Int → Int → Int → Int → List S25 → List S25 → List S25 → Option ((Option S102) × Int)
  | 0, _, _, _, _, _, _, _, _ => none
  | k + 1, x0, x1, x2, x3, x4, x5, x6, x7 => if x2 < x1 then (if 0 ≤ x2 then (if x2 < (x0.length : Int) then ((linpoly_Space_value.f k (some (⟨x4, x5, x6, x7⟩ : S102)) x2 (rd25 x0 x2)).bind fun r4 => if x6.length + [r4].length ≤ 140737488355328 / 16 then ((tower_Inv.f k x3 r4).bind fun r5 => if x7.length + [r5].length ≤ 140737488355328 / 16 then linpoly_New.l11 k x0 x1 (wrap64 (x2 + 1)) x3 x4 x5 (x6 ++ [r4]) (x7 ++ [r5]) else none) else none) else none) else none) else some (some (⟨x4, x5, x6, x7⟩ : S102), 0)
def linpoly_New.f (k : Nat) (a0 : Int) (a1 : List S25) : Option ((Option S102) × Int) := (octet_Wide.f k a0).bind fun r0 => if r0 = 0 then some (none, 1) else if (a1.length : Int) > 10 then some (none, 2) else (slices_ContainsFunc74_c75.f k a1 a0).bind fun r1 => if r1 = true then some (none, 5) else (span_Rank.f k a1).bind fun r2 => if r2 < (a1.length : Int) then some (none, 7) else (slices_Clone76.f k a1).bind fun r3 => linpoly_New.l11 k a1 (a1.length : Int) 0 a0 a0 r3 [] []
def linpoly_New.sig (k : Nat) : Sig E.toTys := ⟨[.int .i64, .slice (.st 0)], [(false, .ptr (.st 4)), (false, .int .i64)], none, fun x => f k x.1 x.2.1⟩
noncomputable def linpoly_New.body : Code := Try.f42.body.getD .skip
def linpoly_New.calls (k : Nat) : List (Nat × Sig E.toTys) := [(73, octet_Wide.sig k), (74, slices_ContainsFunc74_c75.sig k), (18, span_Rank.sig k), (76, slices_Clone76.sig k), (68, linpoly_Space_value.sig k), (77, tower_Inv.sig k)]
def linpoly_New.cuts : List (Cut E (RT E.toTys [(false, .ptr (.st 4)), (false, .int .i64)])) := [⟨true, 11, ⟨cat (ds 2) (cat [.one (.ptr 0 0)] (cat (ds 3) (cat [.one (.ptr 1 0)] (cat (ds 26) (cat [.one (.val (.slice (.st 0))), .one (.val (.int .i64)), .one (.val (.int .i64))] (ds 32)))))), [.var [.val (.int .i64)], .var [.val (.int .i64), .ref 2, .ref 3, .ref 4], .arr (.st 0), .arr (.st 0), .arr (.st 0)], false⟩, fun k x => linpoly_New.l11 k x.1.1 x.1.2.1 x.1.2.2.1 x.2.1.1 x.2.2.1.1 x.2.2.2.1 x.2.2.2.2.1 x.2.2.2.2.2.1⟩]
theorem linpoly_New.ok (k : Nat) : Okf (XR E) Try.prog 42 (linpoly_New.sig k) := ⟨fn_ok (C := fun k => (tab.ctx fun f => lk f (linpoly_New.calls k)).pmd [(14, 5, [1]), (14, 6, [6]), (14, 7, []), (14, 8, [3]), (14, 12, [1]), (14, 13, [0]), (14, 14, [6]), (14, 15, []), (14, 16, []), (14, 17, [4]), (14, 20, [1]), (14, 23, [1])]) (fun k => (tie _).pmd _) k (fun j hj => (calls_ok (kc (octet_Wide.ok j) (kc (slices_ContainsFunc74_c75.ok j) (kc (span_Rank.ok j) (kc (slices_Clone76.ok j) (kc (linpoly_Space_value.ok j) (kc (tower_Inv.ok j) (kn)))))))).pmd _) 400 Try.func42 (body := linpoly_New.body) (res := [.tmp 4, .tmp 5]) rfl (by kernel_rfl) linpoly_New.cuts (kc ⟨by kernel_rfl, rfl, fun _ => rfl, fun _ _ => by kernel_rfl⟩ (kn)) (fun x => by kernel_rfl), _, Try.func42, by kernel_rfl, by kernel_rfl⟩
/-! ### (steeple/steeplelaw05.Space).Made: function 33 -/
def steeplelaw05_Space_Made.f (k : Nat) (a0 : S58) : Option (Option S102) := if (a0.f1.length : Int) > 6 then some none else (linpoly_New.f k a0.f0 a0.f1).bind fun r0 => if r0.2 = 0 then some r0.1 else some none
def steeplelaw05_Space_Made.sig (k : Nat) : Sig E.toTys := ⟨[.st 3], [(false, .ptr (.st 4))], none, fun x => f k x.1⟩
noncomputable def steeplelaw05_Space_Made.body : Code := Try.f33.body.getD .skip
def steeplelaw05_Space_Made.calls (k : Nat) : List (Nat × Sig E.toTys) := [(42, linpoly_New.sig k)]
def steeplelaw05_Space_Made.cuts : List (Cut E (RT E.toTys [(false, .ptr (.st 4))])) := []
theorem steeplelaw05_Space_Made.ok (k : Nat) : Okf (XR E) Try.prog 33 (steeplelaw05_Space_Made.sig k) := ⟨fn_ok (C := fun k => tab.ctx fun f => lk f (steeplelaw05_Space_Made.calls k)) (fun k => tie _) k (fun j hj => calls_ok (kc (linpoly_New.ok j) (kn))) 400 Try.func33 (body := steeplelaw05_Space_Made.body) (res := [.tmp 2]) rfl (by kernel_rfl) steeplelaw05_Space_Made.cuts (kn) (fun x => by kernel_rfl), _, Try.func33, by kernel_rfl, by kernel_rfl⟩
/-! ### steeple/tower.One: function 40 -/
def tower_One.f (k : Nat) : Option S25 := some (⟨0, 1⟩ : S25)
def tower_One.sig (k : Nat) : Sig E.toTys := ⟨[], [(false, .st 0)], none, fun x => f k⟩
noncomputable def tower_One.body : Code := Try.f40.body.getD .skip
def tower_One.calls (k : Nat) : List (Nat × Sig E.toTys) := []
def tower_One.cuts : List (Cut E (RT E.toTys [(false, .st 0)])) := []
theorem tower_One.ok (k : Nat) : Okf (XR E) Try.prog 40 (tower_One.sig k) := ⟨fn_ok (C := fun k => tab.ctx fun f => lk f (tower_One.calls k)) (fun k => tie _) k (fun j hj => calls_ok (kn)) 400 Try.func40 (body := tower_One.body) (res := [.cell 0 25]) rfl (by kernel_rfl) tower_One.cuts (kn) (fun x => by kernel_rfl), _, Try.func40, by kernel_rfl, by kernel_rfl⟩
/-! ### (*steeple/linpoly.Space).Dim: function 45 -/
def linpoly_Space_Dim.f (k : Nat) (a0 : Option S102) : Option Int := (match a0 with | none => some 0 | some _ => (match a0 with | none => none | some r0 => some (r0.f1.length : Int)))
def linpoly_Space_Dim.sig (k : Nat) : Sig E.toTys := ⟨[.ptr (.st 4)], [(false, .int .i64)], none, fun x => f k x.1⟩
noncomputable def linpoly_Space_Dim.body : Code := Try.f45.body.getD .skip
def linpoly_Space_Dim.calls (k : Nat) : List (Nat × Sig E.toTys) := []
def linpoly_Space_Dim.cuts : List (Cut E (RT E.toTys [(false, .int .i64)])) := []
theorem linpoly_Space_Dim.ok (k : Nat) : Okf (XR E) Try.prog 45 (linpoly_Space_Dim.sig k) := ⟨fn_ok (C := fun k => tab.ctx fun f => lk f (linpoly_Space_Dim.calls k)) (fun k => tie _) k (fun j hj => calls_ok (kn)) 400 Try.func45 (body := linpoly_Space_Dim.body) (res := [.tmp 2]) rfl (by kernel_rfl) linpoly_Space_Dim.cuts (kn) (fun x => by kernel_rfl), _, Try.func45, by kernel_rfl, by kernel_rfl⟩
/-! ### (*steeple/linpoly.Space).Value: function 35 -/
def linpoly_Space_Value.j2 : Nat → Int → Int → Option S25
  | 0, _, _ => none
  | k + 1, _, _ => some (⟨0, 0⟩ : S25)
def linpoly_Space_Value.f (k : Nat) (a0 : Option S102) (a1 : Int) (a2 : S25) : Option S25 := (match a0 with | none => linpoly_Space_Value.j2 k 0 0 | some _ => if a1 < 0 then linpoly_Space_Value.j2 k 0 0 else (match a0 with | none => none | some r0 => if a1 > (r0.f1.length : Int) then linpoly_Space_Value.j2 k 0 0 else (match a0 with | none => none | some r1 => (octet_Of.f k r1.f0 a2).bind fun r2 => if (!r2) = true then linpoly_Space_Value.j2 k 0 0 else (linpoly_Space_value.f k a0 a1 a2).bind fun r3 => some r3)))
def linpoly_Space_Value.sig (k : Nat) : Sig E.toTys := ⟨[.ptr (.st 4), .int .i64, .st 0], [(false, .st 0)], none, fun x => f k x.1 x.2.1 x.2.2.1⟩
noncomputable def linpoly_Space_Value.body : Code := Try.f35.body.getD .skip
def linpoly_Space_Value.calls (k : Nat) : List (Nat × Sig E.toTys) := [(67, octet_Of.sig k), (68, linpoly_Space_value.sig k)]
def linpoly_Space_Value.cuts : List (Cut E (RT E.toTys [(false, .st 0)])) := [⟨false, 2, ⟨cat (ds 6) (cat [.one (.ptr 0 0)] (ds 29)), [.var [.val (.int .u64), .val (.int .u64)]], false⟩, fun k x => linpoly_Space_Value.j2 k x.2.1.1 x.2.1.2.1⟩]
theorem linpoly_Space_Value.ok (k : Nat) : Okf (XR E) Try.prog 35 (linpoly_Space_Value.sig k) := ⟨fn_ok (C := fun k => tab.ctx fun f => lk f (linpoly_Space_Value.calls k)) (fun k => tie _) k (fun j hj => calls_ok (kc (octet_Of.ok j) (kc (linpoly_Space_value.ok j) (kn)))) 400 Try.func35 (body := linpoly_Space_Value.body) (res := [.cell 6 25]) rfl (by kernel_rfl) linpoly_Space_Value.cuts (kc ⟨by kernel_rfl, rfl, fun _ => rfl, fun _ _ => by kernel_rfl⟩ (kn)) (fun x => by kernel_rfl), _, Try.func35, by kernel_rfl, by kernel_rfl⟩
/-! ### steeple/steeplelaw05.awake: function 34 -/
def steeplelaw05_awake.f (k : Nat) : Option Bool := (tower_One.f k).bind fun r0 => (linpoly_New.f k 1 [r0]).bind fun r1 => if r1.2 = 0 then ((match r1.1 with | none => some false | some _ => (linpoly_Space_Dim.f k r1.1).bind fun r2 => if r2 = 1 then ((linpoly_Space_Value.f k r1.1 1 (⟨0, 2⟩ : S25)).bind fun r3 => (tower_One.f k).bind fun r4 => some (decide (r3.f0 = r4.f0 ∧ r3.f1 = r4.f1))) else some false)) else some false
def steeplelaw05_awake.sig (k : Nat) : Sig E.toTys := ⟨[], [(false, .bool)], none, fun x => f k⟩
noncomputable def steeplelaw05_awake.body : Code := Try.f34.body.getD .skip
def steeplelaw05_awake.calls (k : Nat) : List (Nat × Sig E.toTys) := [(40, tower_One.sig k), (42, linpoly_New.sig k), (45, linpoly_Space_Dim.sig k), (35, linpoly_Space_Value.sig k)]
def steeplelaw05_awake.cuts : List (Cut E (RT E.toTys [(false, .bool)])) := []
theorem steeplelaw05_awake.ok (k : Nat) : Okf (XR E) Try.prog 34 (steeplelaw05_awake.sig k) := ⟨fn_ok (C := fun k => tab.ctx fun f => lk f (steeplelaw05_awake.calls k)) (fun k => tie _) k (fun j hj => calls_ok (kc (tower_One.ok j) (kc (linpoly_New.ok j) (kc (linpoly_Space_Dim.ok j) (kc (linpoly_Space_Value.ok j) (kn)))))) 400 Try.func34 (body := steeplelaw05_awake.body) (res := [.tmp 0]) rfl (by kernel_rfl) steeplelaw05_awake.cuts (kn) (fun x => by kernel_rfl), _, Try.func34, by kernel_rfl, by kernel_rfl⟩
/-! ### (*steeple/linpoly.Space).Norm: function 36 -/
def linpoly_Space_Norm.j2 : Nat → Int → Int → Option S25
  | 0, _, _ => none
  | k + 1, _, _ => some (⟨0, 0⟩ : S25)
def linpoly_Space_Norm.f (k : Nat) (a0 : Option S102) (a1 : Int) (a2 : S25) : Option S25 := (match a0 with | none => linpoly_Space_Norm.j2 k 0 0 | some _ => if a1 < 0 then linpoly_Space_Norm.j2 k 0 0 else (match a0 with | none => none | some r0 => if a1 ≥ (r0.f1.length : Int) then linpoly_Space_Norm.j2 k 0 0 else (match a0 with | none => none | some r1 => (octet_Of.f k r1.f0 a2).bind fun r2 => if (!r2) = true then linpoly_Space_Norm.j2 k 0 0 else (match a0 with | none => none | some r3 => (linpoly_Space_value.f k a0 a1 a2).bind fun r4 => (match a0 with | none => none | some r5 => if 0 ≤ a1 then (if a1 < (r5.f3.length : Int) then ((tower_Mul.f k r3.f0 r4 (rd25 r5.f3 a1)).bind fun r6 => some r6) else none) else none)))))
def linpoly_Space_Norm.sig (k : Nat) : Sig E.toTys := ⟨[.ptr (.st 4), .int .i64, .st 0], [(false, .st 0)], none, fun x => f k x.1 x.2.1 x.2.2.1⟩
noncomputable def linpoly_Space_Norm.body : Code := Try.f36.body.getD .skip
def linpoly_Space_Norm.calls (k : Nat) : List (Nat × Sig E.toTys) := [(67, octet_Of.sig k), (68, linpoly_Space_value.sig k), (69, tower_Mul.sig k)]
def linpoly_Space_Norm.cuts : List (Cut E (RT E.toTys [(false, .st 0)])) := [⟨false, 2, ⟨cat (ds 6) (cat [.one (.ptr 0 0)] (ds 41)), [.var [.val (.int .u64), .val (.int .u64)]], false⟩, fun k x => linpoly_Space_Norm.j2 k x.2.1.1 x.2.1.2.1⟩]
theorem linpoly_Space_Norm.ok (k : Nat) : Okf (XR E) Try.prog 36 (linpoly_Space_Norm.sig k) := ⟨fn_ok (C := fun k => tab.ctx fun f => lk f (linpoly_Space_Norm.calls k)) (fun k => tie _) k (fun j hj => calls_ok (kc (octet_Of.ok j) (kc (linpoly_Space_value.ok j) (kc (tower_Mul.ok j) (kn))))) 400 Try.func36 (body := linpoly_Space_Norm.body) (res := [.cell 6 25]) rfl (by kernel_rfl) linpoly_Space_Norm.cuts (kc ⟨by kernel_rfl, rfl, fun _ => rfl, fun _ _ => by kernel_rfl⟩ (kn)) (fun x => by kernel_rfl), _, Try.func36, by kernel_rfl, by kernel_rfl⟩
/-! ### steeple/steepleref01.bit: function 70 -/
def steepleref01_bit.f (k : Nat) (a0 : S30) (a1 : Int) : Option Int := if a1 ≥ 64 then (if 0 ≤ IntKind.u64.wrap (wrap64 (a1 - 64)) then some (bits .and .u64 (shr .u64 a0.f0 (IntKind.u64.wrap (wrap64 (a1 - 64)))) 1) else none) else if 0 ≤ IntKind.u64.wrap a1 then some (bits .and .u64 (shr .u64 a0.f1 (IntKind.u64.wrap a1)) 1) else none
def steepleref01_bit.sig (k : Nat) : Sig E.toTys := ⟨[.st 1, .int .i64], [(false, .int .u64)], none, fun x => f k x.1 x.2.1⟩
noncomputable def steepleref01_bit.body : Code := Try.f70.body.getD .skip
def steepleref01_bit.calls (k : Nat) : List (Nat × Sig E.toTys) := []
def steepleref01_bit.cuts : List (Cut E (RT E.toTys [(false, .int .u64)])) := []
theorem steepleref01_bit.ok (k : Nat) : Okf (XR E) Try.prog 70 (steepleref01_bit.sig k) := ⟨fn_ok (C := fun k => tab.ctx fun f => lk f (steepleref01_bit.calls k)) (fun k => tie _) k (fun j hj => calls_ok (kn)) 400 Try.func70 (body := steepleref01_bit.body) (res := [.tmp 4]) rfl (by kernel_rfl) steepleref01_bit.cuts (kn) (fun x => by kernel_rfl), _, Try.func70, by kernel_rfl, by kernel_rfl⟩
/-! ### steeple/steepleref01.Of: function 37 -/
def steepleref01_Of.l5 : Nat → Int → Int → Int → Option Bool
  | 0, _, _, _ => none
  | k + 1, x0, x1, x2 => if x0 < 128 then ((steepleref01_bit.f k (⟨x1, x2⟩ : S30) x0).bind fun r0 => if r0 = 1 then some false else steepleref01_Of.l5 k (wrap64 (x0 + 1)) x1 x2) else some true
def steepleref01_Of.f (k : Nat) (a0 : Int) (a1 : S30) : Option Bool := if a0 < 0 then some false else if a0 > 7 then some false else if 0 ≤ a0 then (if a0 < ([1, 2, 4, 8, 16, 32, 64, 128].length : Int) then steepleref01_Of.l5 k (rdI [1, 2, 4, 8, 16, 32, 64, 128] a0) a1.f0 a1.f1 else none) else none
def steepleref01_Of.sig (k : Nat) : Sig E.toTys := ⟨[.int .i64, .st 1], [(false, .bool)], none, fun x => f k x.1 x.2.1⟩
noncomputable def steepleref01_Of.body : Code := Try.f37.body.getD .skip
def steepleref01_Of.calls (k : Nat) : List (Nat × Sig E.toTys) := [(70, steepleref01_bit.sig k)]
def steepleref01_Of.cuts : List (Cut E (RT E.toTys [(false, .bool)])) := [⟨true, 5, ⟨cat (ds 3) (cat [.one (.ptr 0 0)] (cat (ds 2) (cat [.one (.val (.int .i64))] (ds 19)))), [.var [.val (.int .u64), .val (.int .u64)]], false⟩, fun k x => steepleref01_Of.l5 k x.1.1 x.2.1.1 x.2.1.2.1⟩]
theorem steepleref01_Of.ok (k : Nat) : Okf (XR E) Try.prog 37 (steepleref01_Of.sig k) := ⟨fn_ok (C := fun k => tab.ctx fun f => lk f (steepleref01_Of.calls k)) (fun k => tie _) k (fun j hj => calls_ok (kc (steepleref01_bit.ok j) (kn))) 400 Try.func37 (body := steepleref01_Of.body) (res := [.tmp 4]) rfl (by kernel_rfl) steepleref01_Of.cuts (kc ⟨by kernel_rfl, rfl, fun _ => rfl, fun _ _ => by kernel_rfl⟩ (kn)) (fun x => by kernel_rfl), _, Try.func37, by kernel_rfl, by kernel_rfl⟩
/-! ### steeple/steepleref05.Points: function 47 -/
mutual
def steepleref05_Points.l3 : Nat → List S30 → Int → Int → List S30 → Option (List S30)
  | 0, _, _, _, _ => none
  | k + 1, x0, x1, x2, x3 => if x2 < x1 then steepleref05_Points.l7 k x0 x1 x2 (x3.length : Int) 0 x3 else some x3
def steepleref05_Points.l7 : Nat → List S30 → Int → Int → Int → Int → List S30 → Option (List S30)
  | 0, _, _, _, _, _, _ => none
  | k + 1, x0, x1, x2, x3, x4, x5 => if x4 < x3 then (if 0 ≤ x4 then (if x4 < (x5.length : Int) then (if 0 ≤ x2 then (if x2 < (x0.length : Int) then ((steepleref02_Add.f k (rd30 x5 x4) (rd30 x0 x2)).bind fun r0 => if x5.length + [r0].length ≤ 140737488355328 / 16 then steepleref05_Points.l7 k x0 x1 x2 x3 (wrap64 (x4 + 1)) (x5 ++ [r0]) else none) else none) else none) else none) else none) else steepleref05_Points.l3 k x0 x1 (wrap64 (x2 + 1)) x5
end
def steepleref05_Points.f (k : Nat) (a0 : List S30) (a1 : Int) (a2 : S30) : Option (List S30) := steepleref05_Points.l3 k a0 a1 0 [a2]
def steepleref05_Points.sig (k : Nat) : Sig E.toTys := ⟨[.slice (.st 1), .int .i64, .st 1], [(true, .slice (.st 1))], none, fun x => f k x.1 x.2.1 x.2.2.1⟩
noncomputable def steepleref05_Points.body : Code := Try.f47.body.getD .skip
def steepleref05_Points.calls (k : Nat) : List (Nat × Sig E.toTys) := [(60, steepleref02_Add.sig k)]
def steepleref05_Points.cuts : List (Cut E (RT E.toTys [(true, .slice (.st 1))])) := [⟨true, 3, ⟨cat [.one (.val (.slice (.st 1))), .one (.val (.int .i64))] (cat (ds 5) (cat [.one (.ref 0), .one (.val (.int .i64))] (ds 29))), [.arr (.st 1)], false⟩, fun k x => steepleref05_Points.l3 k x.1.1 x.1.2.1 x.1.2.2.1 x.2.1⟩,
  ⟨true, 7, ⟨cat [.one (.val (.slice (.st 1))), .one (.val (.int .i64))] (cat (ds 5) (cat [.one (.ref 0), .one (.val (.int .i64)), .one (.val (.int .i64)), .one (.val (.int .i64))] (ds 27))), [.arr (.st 1)], false⟩, fun k x => steepleref05_Points.l7 k x.1.1 x.1.2.1 x.1.2.2.1 x.1.2.2.2.1 x.1.2.2.2.2.1 x.2.1⟩]
theorem steepleref05_Points.ok (k : Nat) : Okf (XR E) Try.prog 47 (steepleref05_Points.sig k) := ⟨fn_ok (C := fun k => tab.ctx fun f => lk f (steepleref05_Points.calls k)) (fun k => tie _) k (fun j hj => calls_ok (kc (steepleref02_Add.ok j) (kn))) 400 Try.func47 (body := steepleref05_Points.body) (res := [.tmp 6]) rfl (by kernel_rfl) steepleref05_Points.cuts (kc ⟨by kernel_rfl, rfl, fun _ => rfl, fun _ _ => by kernel_rfl⟩ (kc ⟨by kernel_rfl, rfl, fun _ => rfl, fun _ _ => by kernel_rfl⟩ (kn))) (fun x => by kernel_rfl), _, Try.func47, by kernel_rfl, by kernel_rfl⟩
/-! ### steeple/steepleref02.mask: function 103 -/
def steepleref02_mask.f (k : Nat) (a0 : Int) : Option Int := if 0 ≤ a0 then (if a0 < ([6148914691236517205, 3689348814741910323, 1085102592571150095, 71777214294589695, 281470681808895, 4294967295].length : Int) then some (rdI [6148914691236517205, 3689348814741910323, 1085102592571150095, 71777214294589695, 281470681808895, 4294967295] a0) else none) else none
def steepleref02_mask.sig (k : Nat) : Sig E.toTys := ⟨[.int .i64], [(false, .int .u64)], none, fun x => f k x.1⟩
noncomputable def steepleref02_mask.body : Code := Try.f103.body.getD .skip
def steepleref02_mask.calls (k : Nat) : List (Nat × Sig E.toTys) := []
def steepleref02_mask.cuts : List (Cut E (RT E.toTys [(false, .int .u64)])) := []
theorem steepleref02_mask.ok (k : Nat) : Okf (XR E) Try.prog 103 (steepleref02_mask.sig k) := ⟨fn_ok (C := fun k => tab.ctx fun f => lk f (steepleref02_mask.calls k)) (fun k => tie _) k (fun j hj => calls_ok (kn)) 400 Try.func103 (body := steepleref02_mask.body) (res := [.tmp 2]) rfl (by kernel_rfl) steepleref02_mask.cuts (kn) (fun x => by kernel_rfl), _, Try.func103, by kernel_rfl, by kernel_rfl⟩
/-! ### steeple/steepleref02.timesWord: function 93 -/
def steepleref02_timesWord.f : Nat → Int → Int → Option Int
  | 0, _, _ => none
  | k + 1, a0, a1 => if a0 < 0 then some a1 else if 0 ≤ IntKind.u64.wrap a0 then (if 0 ≤ shl .u64 1 (IntKind.u64.wrap a0) then ((steepleref02_mask.f k a0).bind fun r0 => (steepleref02_mask.f k a0).bind fun r1 => (steepleref02_timesWord.f k (wrap64 (a0 - 1)) (bits .and .u64 (shr .u64 a1 (shl .u64 1 (IntKind.u64.wrap a0))) r0)).bind fun r2 => if 0 ≤ shl .u64 1 (IntKind.u64.wrap a0) then some (bits .or .u64 (shl .u64 (bits .xor .u64 (bits .and .u64 a1 r1) r2) (shl .u64 1 (IntKind.u64.wrap a0))) (bits .and .u64 (shr .u64 a1 (shl .u64 1 (IntKind.u64.wrap a0))) r0)) else none) else none) else none
def steepleref02_timesWord.sig (k : Nat) : Sig E.toTys := ⟨[.int .i64, .int .u64], [(false, .int .u64)], none, fun x => f k x.1 x.2.1⟩
noncomputable def steepleref02_timesWord.body : Code := Try.f93.body.getD .skip
def steepleref02_timesWord.calls (k : Nat) : List (Nat × Sig E.toTys) := [(103, steepleref02_mask.sig k), (93, steepleref02_timesWord.sig k)]
def steepleref02_timesWord.cuts : List (Cut E (RT E.toTys [(false, .int .u64)])) := []
theorem steepleref02_timesWord.oks (k : Nat) : Okf (XR E) Try.prog 93 (steepleref02_timesWord.sig k) := by
  induction k using Nat.strongRecOn with
  | ind k ih =>
  cases k with
  | zero => exact ⟨ok0 fun _ => rfl, _, Try.func93, by kernel_rfl, by kernel_rfl⟩
  | succ k => exact ⟨fn_ok (C := fun k => tab.ctx fun f => lk f (steepleref02_timesWord.calls k)) (fun k => tie _) k (fun j hj => calls_ok (kc (steepleref02_mask.ok j) (kc (ih j (Nat.lt_succ_of_le hj)) (kn)))) 400 Try.func93 (body := steepleref02_timesWord.body) (res := [.tmp 4]) rfl (by kernel_rfl) steepleref02_timesWord.cuts (kn) (fun x => by kernel_rfl), _, Try.func93, by kernel_rfl, by kernel_rfl⟩
theorem steepleref02_timesWord.ok (k : Nat) : Okf (XR E) Try.prog 93 (steepleref02_timesWord.sig k) := (steepleref02_timesWord.oks k)
/-! ### steeple/steepleref02.Times: function 85 -/
def steepleref02_Times.f (k : Nat) (a0 : Int) (a1 : S30) : Option S30 := if a0 < 6 then ((steepleref02_timesWord.f k a0 a1.f0).bind fun r0 => (steepleref02_timesWord.f k a0 a1.f1).bind fun r1 => some (⟨r0, r1⟩ : S30)) else (steepleref02_timesWord.f k 5 a1.f0).bind fun r2 => some (⟨bits .xor .u64 a1.f1 r2, a1.f0⟩ : S30)
def steepleref02_Times.sig (k : Nat) : Sig E.toTys := ⟨[.int .i64, .st 1], [(false, .st 1)], none, fun x => f k x.1 x.2.1⟩
noncomputable def steepleref02_Times.body : Code := Try.f85.body.getD .skip
def steepleref02_Times.calls (k : Nat) : List (Nat × Sig E.toTys) := [(93, steepleref02_timesWord.sig k)]
def steepleref02_Times.cuts : List (Cut E (RT E.toTys [(false, .st 1)])) := []
theorem steepleref02_Times.ok (k : Nat) : Okf (XR E) Try.prog 85 (steepleref02_Times.sig k) := ⟨fn_ok (C := fun k => tab.ctx fun f => lk f (steepleref02_Times.calls k)) (fun k => tie _) k (fun j hj => calls_ok (kc (steepleref02_timesWord.ok j) (kn))) 400 Try.func85 (body := steepleref02_Times.body) (res := [.cell 4 30]) rfl (by kernel_rfl) steepleref02_Times.cuts (kn) (fun x => by kernel_rfl), _, Try.func85, by kernel_rfl, by kernel_rfl⟩
/-! ### steeple/steepleref02.Product: function 71 -/
mutual
def steepleref02_Product.l3 : Nat → Int → Int → Int → Int → Int → Int → Int → Int → Int → Option S30
  | 0, _, _, _, _, _, _, _, _, _ => none
  | k + 1, x0, x1, x2, x3, x4, x5, x6, x7, x8 => if x0 < 128 then ((steepleref02_Has.f k (⟨x3, x4⟩ : S30) x0).bind fun r0 => if (!r0) = true then steepleref02_Product.l3 k (wrap64 (x0 + 1)) x1 x2 x3 x4 x5 x6 x7 x8 else steepleref02_Product.l8 k x0 0 x1 x2 x3 x4 x5 x6 x7 x8 x1 x2) else some (⟨x7, x8⟩ : S30)
def steepleref02_Product.l8 : Nat → Int → Int → Int → Int → Int → Int → Int → Int → Int → Int → Int → Int → Option S30
  | 0, _, _, _, _, _, _, _, _, _, _, _, _ => none
  | k + 1, x0, x1, x2, x3, x4, x5, x6, x7, x8, x9, x10, x11 => if x1 < 7 then (if 0 ≤ IntKind.u64.wrap x1 then (if bits .and .i64 (shr .i64 x0 (IntKind.u64.wrap x1)) 1 = 1 then ((steepleref02_Times.f k x1 (⟨x10, x11⟩ : S30)).bind fun r1 => steepleref02_Product.l8 k x0 (wrap64 (x1 + 1)) x2 x3 x4 x5 x6 x7 x8 x9 r1.f0 r1.f1) else steepleref02_Product.l8 k x0 (wrap64 (x1 + 1)) x2 x3 x4 x5 x6 x7 x8 x9 x10 x11) else none) else (steepleref02_Add.f k (⟨x8, x9⟩ : S30) (⟨x10, x11⟩ : S30)).bind fun r2 => steepleref02_Product.l3 k (wrap64 (x0 + 1)) x2 x3 x4 x5 x6 x7 r2.f0 r2.f1
end
def steepleref02_Product.f (k : Nat) (a0 : S30) (a1 : S30) : Option S30 := steepleref02_Product.l3 k 0 a0.f0 a0.f1 a1.f0 a1.f1 0 0 0 0
def steepleref02_Product.sig (k : Nat) : Sig E.toTys := ⟨[.st 1, .st 1], [(false, .st 1)], none, fun x => f k x.1 x.2.1⟩
noncomputable def steepleref02_Product.body : Code := Try.f71.body.getD .skip
def steepleref02_Product.calls (k : Nat) : List (Nat × Sig E.toTys) := [(23, steepleref02_Has.sig k), (85, steepleref02_Times.sig k), (60, steepleref02_Add.sig k)]
def steepleref02_Product.cuts : List (Cut E (RT E.toTys [(false, .st 1)])) := [⟨true, 3, ⟨cat (ds 2) (cat [.one (.ptr 0 0), .one (.ptr 1 0), .one (.ptr 2 0), .one (.ptr 3 0), .one (.val (.int .i64))] (ds 28)), [.var [.val (.int .u64), .val (.int .u64)], .var [.val (.int .u64), .val (.int .u64)], .var [.val (.int .u64), .val (.int .u64)], .var [.val (.int .u64), .val (.int .u64)]], false⟩, fun k x => steepleref02_Product.l3 k x.1.1 x.2.1.1 x.2.1.2.1 x.2.2.1.1 x.2.2.1.2.1 x.2.2.2.1.1 x.2.2.2.1.2.1 x.2.2.2.2.1.1 x.2.2.2.2.1.2.1⟩,
  ⟨true, 8, ⟨cat (ds 2) (cat [.one (.ptr 0 0), .one (.ptr 1 0), .one (.ptr 2 0), .one (.ptr 3 0), .one (.val (.int .i64)), .one (.ptr 4 0), .one (.val (.int .i64))] (ds 26)), [.var [.val (.int .u64), .val (.int .u64)], .var [.val (.int .u64), .val (.int .u64)], .var [.val (.int .u64), .val (.int .u64)], .var [.val (.int .u64), .val (.int .u64)], .var [.val (.int .u64), .val (.int .u64)]], false⟩, fun k x => steepleref02_Product.l8 k x.1.1 x.1.2.1 x.2.1.1 x.2.1.2.1 x.2.2.1.1 x.2.2.1.2.1 x.2.2.2.1.1 x.2.2.2.1.2.1 x.2.2.2.2.1.1 x.2.2.2.2.1.2.1 x.2.2.2.2.2.1.1 x.2.2.2.2.2.1.2.1⟩]
theorem steepleref02_Product.ok (k : Nat) : Okf (XR E) Try.prog 71 (steepleref02_Product.sig k) := ⟨fn_ok (C := fun k => tab.ctx fun f => lk f (steepleref02_Product.calls k)) (fun k => tie _) k (fun j hj => calls_ok (kc (steepleref02_Has.ok j) (kc (steepleref02_Times.ok j) (kc (steepleref02_Add.ok j) (kn))))) 400 Try.func71 (body := steepleref02_Product.body) (res := [.cell 4 30]) rfl (by kernel_rfl) steepleref02_Product.cuts (kc ⟨by kernel_rfl, rfl, fun _ => rfl, fun _ _ => by kernel_rfl⟩ (kc ⟨by kernel_rfl, rfl, fun _ => rfl, fun _ _ => by kernel_rfl⟩ (kn))) (fun x => by kernel_rfl), _, Try.func71, by kernel_rfl, by kernel_rfl⟩
/-! ### steeple/steepleref05.Value: function 38 -/
def steepleref05_Value.l5 : Nat → Int → Int → Int → Int → Int → List S30 → Int → Int → Option S30
  | 0, _, _, _, _, _, _, _, _ => none
  | k + 1, x0, x1, x2, x3, x4, x5, x6, x7 => if x0 < (x5.length : Int) then (if 0 ≤ x0 then (if x0 < (x5.length : Int) then ((steepleref02_Add.f k (⟨x1, x2⟩ : S30) (rd30 x5 x0)).bind fun r1 => (steepleref02_Product.f k (⟨x6, x7⟩ : S30) r1).bind fun r2 => steepleref05_Value.l5 k (wrap64 (x0 + 1)) x1 x2 x3 x4 x5 r2.f0 r2.f1) else none) else none) else some (⟨x6, x7⟩ : S30)
def steepleref05_Value.f (k : Nat) (a0 : List S30) (a1 : Int) (a2 : S30) : Option S30 := (steepleref05_Points.f k a0 a1 (⟨0, 0⟩ : S30)).bind fun r0 => steepleref05_Value.l5 k 0 a2.f0 a2.f1 0 0 r0 0 1
def steepleref05_Value.sig (k : Nat) : Sig E.toTys := ⟨[.slice (.st 1), .int .i64, .st 1], [(false, .st 1)], none, fun x => f k x.1 x.2.1 x.2.2.1⟩
noncomputable def steepleref05_Value.body : Code := Try.f38.body.getD .skip
def steepleref05_Value.calls (k : Nat) : List (Nat × Sig E.toTys) := [(47, steepleref05_Points.sig k), (60, steepleref02_Add.sig k), (71, steepleref02_Product.sig k)]
def steepleref05_Value.cuts : List (Cut E (RT E.toTys [(false, .st 1)])) := [⟨true, 5, ⟨cat (ds 5) (cat [.one (.ptr 0 0), .one (.ptr 1 0)] (cat (ds 1) (cat [.one (.ref 2), .one (.ptr 3 0), .one (.val (.int .i64))] (ds 20)))), [.var [.val (.int .u64), .val (.int .u64)], .var [.val (.int .u64), .val (.int .u64)], .arr (.st 1), .var [.val (.int .u64), .val (.int .u64)]], false⟩, fun k x => steepleref05_Value.l5 k x.1.1 x.2.1.1 x.2.1.2.1 x.2.2.1.1 x.2.2.1.2.1 x.2.2.2.1 x.2.2.2.2.1.1 x.2.2.2.2.1.2.1⟩]
theorem steepleref05_Value.ok (k : Nat) : Okf (XR E) Try.prog 38 (steepleref05_Value.sig k) := ⟨fn_ok (C := fun k => tab.ctx fun f => lk f (steepleref05_Value.calls k)) (fun k => tie _) k (fun j hj => calls_ok (kc (steepleref05_Points.ok j) (kc (steepleref02_Add.ok j) (kc (steepleref02_Product.ok j) (kn))))) 400 Try.func38 (body := steepleref05_Value.body) (res := [.cell 6 30]) rfl (by kernel_rfl) steepleref05_Value.cuts (kc ⟨by kernel_rfl, rfl, fun _ => rfl, fun _ _ => by kernel_rfl⟩ (kn)) (fun x => by kernel_rfl), _, Try.func38, by kernel_rfl, by kernel_rfl⟩
/-! ### steeple/steepleref02.Inv: function 72 -/
def steepleref02_Inv.l9 : Nat → Int → Int → Int → Int → List Int → Int → Int → Int → Int → Option S30
  | 0, _, _, _, _, _, _, _, _, _ => none
  | k + 1, x0, x1, x2, x3, x4, x5, x6, x7, x8 => if 0 ≤ x0 then (if x0 < (x4.length : Int) then (if x1 < rdI x4 x0 then ((steepleref02_Product.f k (⟨x7, x8⟩ : S30) (⟨x7, x8⟩ : S30)).bind fun r1 => (steepleref02_Product.f k (⟨x5, x6⟩ : S30) r1).bind fun r2 => steepleref02_Inv.l9 k x0 (wrap64 (x1 + 1)) x2 x3 x4 r2.f0 r2.f1 r1.f0 r1.f1) else some (⟨x5, x6⟩ : S30)) else none) else none
def steepleref02_Inv.f (k : Nat) (a0 : Int) (a1 : S30) : Option S30 := (steepleref01_Of.f k a0 a1).bind fun r0 => if (!r0) = true then some (⟨0, 0⟩ : S30) else if a0 = 0 then some a1 else steepleref02_Inv.l9 k a0 1 0 0 [1, 2, 4, 8, 16, 32, 64, 128] 0 1 a1.f0 a1.f1
def steepleref02_Inv.sig (k : Nat) : Sig E.toTys := ⟨[.int .i64, .st 1], [(false, .st 1)], none, fun x => f k x.1 x.2.1⟩
noncomputable def steepleref02_Inv.body : Code := Try.f72.body.getD .skip
def steepleref02_Inv.calls (k : Nat) : List (Nat × Sig E.toTys) := [(37, steepleref01_Of.sig k), (71, steepleref02_Product.sig k)]
def steepleref02_Inv.cuts : List (Cut E (RT E.toTys [(false, .st 1)])) := [⟨true, 9, ⟨cat [.one (.val (.int .i64))] (cat (ds 3) (cat [.one (.ptr 0 0), .one (.ref 1), .one (.ptr 2 0), .one (.ptr 3 0), .one (.val (.int .i64))] (ds 26))), [.var [.val (.int .u64), .val (.int .u64)], .arr (.int .i64), .var [.val (.int .u64), .val (.int .u64)], .var [.val (.int .u64), .val (.int .u64)]], false⟩, fun k x => steepleref02_Inv.l9 k x.1.1 x.1.2.1 x.2.1.1 x.2.1.2.1 x.2.2.1 x.2.2.2.1.1 x.2.2.2.1.2.1 x.2.2.2.2.1.1 x.2.2.2.2.1.2.1⟩]
theorem steepleref02_Inv.ok (k : Nat) : Okf (XR E) Try.prog 72 (steepleref02_Inv.sig k) := ⟨fn_ok (C := fun k => tab.ctx fun f => lk f (steepleref02_Inv.calls k)) (fun k => tie _) k (fun j hj => calls_ok (kc (steepleref01_Of.ok j) (kc (steepleref02_Product.ok j) (kn)))) 400 Try.func72 (body := steepleref02_Inv.body) (res := [.cell 4 30]) rfl (by kernel_rfl) steepleref02_Inv.cuts (kc ⟨by kernel_rfl, rfl, fun _ => rfl, fun _ _ => by kernel_rfl⟩ (kn)) (fun x => by kernel_rfl), _, Try.func72, by kernel_rfl, by kernel_rfl⟩
/-! ### steeple/steepleref05.Norm: function 39 -/
def steepleref05_Norm.f (k : Nat) (a0 : Int) (a1 : List S30) (a2 : Int) (a3 : S30) : Option S30 := (steepleref05_Value.f k a1 a2 a3).bind fun r0 => if 0 ≤ a2 then (if a2 < (a1.length : Int) then ((steepleref05_Value.f k a1 a2 (rd30 a1 a2)).bind fun r1 => (steepleref02_Inv.f k a0 r1).bind fun r2 => (steepleref02_Product.f k r0 r2).bind fun r3 => some r3) else none) else none
def steepleref05_Norm.sig (k : Nat) : Sig E.toTys := ⟨[.int .i64, .slice (.st 1), .int .i64, .st 1], [(false, .st 1)], none, fun x => f k x.1 x.2.1 x.2.2.1 x.2.2.2.1⟩
noncomputable def steepleref05_Norm.body : Code := Try.f39.body.getD .skip
def steepleref05_Norm.calls (k : Nat) : List (Nat × Sig E.toTys) := [(38, steepleref05_Value.sig k), (72, steepleref02_Inv.sig k), (71, steepleref02_Product.sig k)]
def steepleref05_Norm.cuts : List (Cut E (RT E.toTys [(false, .st 1)])) := []
theorem steepleref05_Norm.ok (k : Nat) : Okf (XR E) Try.prog 39 (steepleref05_Norm.sig k) := ⟨fn_ok (C := fun k => tab.ctx fun f => lk f (steepleref05_Norm.calls k)) (fun k => tie _) k (fun j hj => calls_ok (kc (steepleref05_Value.ok j) (kc (steepleref02_Inv.ok j) (kc (steepleref02_Product.ok j) (kn))))) 400 Try.func39 (body := steepleref05_Norm.body) (res := [.cell 8 30]) rfl (by kernel_rfl) steepleref05_Norm.cuts (kn) (fun x => by kernel_rfl), _, Try.func39, by kernel_rfl, by kernel_rfl⟩
/-! ### steeple/steeplelaw05.LinpolyValues: function 7 -/
def steeplelaw05_LinpolyValues.j6 : Nat → Int → Int → Int → Int → Option Bool
  | 0, _, _, _, _ => none
  | k + 1, x0, x1, x2, x3 => (steeplelaw05_awake.f k).bind fun r12 => if r12 = true then (if x0 = 0 ∧ x1 = 0 then some (decide (x2 = 0 ∧ x3 = 0)) else some false) else some false
def steeplelaw05_LinpolyValues.f (k : Nat) (a0 : S58) (a1 : Int) (a2 : S25) : Option Bool := (steeplelaw05_Space_Made.f k a0).bind fun r0 => (match r0 with | none => (steeplelaw05_awake.f k).bind fun r1 => some r1 | some _ => (linpoly_Space_Value.f k r0 a1 a2).bind fun r2 => (linpoly_Space_Norm.f k r0 a1 a2).bind fun r3 => (steepleref01_Of.f k a0.f0 (⟨a2.f0, a2.f1⟩ : S30)).bind fun r4 => if (!r4) = true then steeplelaw05_LinpolyValues.j6 k r2.f0 r2.f1 r3.f0 r3.f1 else if a1 < 0 then steeplelaw05_LinpolyValues.j6 k r2.f0 r2.f1 r3.f0 r3.f1 else if a1 > (a0.f1.length : Int) then steeplelaw05_LinpolyValues.j6 k r2.f0 r2.f1 r3.f0 r3.f1 else (steeplelaw01_Ref.f k a0.f1).bind fun r5 => (steepleref05_Value.f k r5 a1 (⟨a2.f0, a2.f1⟩ : S30)).bind fun r6 => if r2.f0 = r6.f0 ∧ r2.f1 = r6.f1 then (if a1 = (a0.f1.length : Int) then ((steeplelaw05_awake.f k).bind fun r7 => if r7 = true then some (decide (r3.f0 = 0 ∧ r3.f1 = 0)) else some false) else (steeplelaw05_awake.f k).bind fun r8 => if r8 = true then ((steepleref05_Norm.f k a0.f0 r5 a1 (⟨a2.f0, a2.f1⟩ : S30)).bind fun r9 => if r3.f0 = r9.f0 ∧ r3.f1 = r9.f1 then (if 0 ≤ a1 then (if a1 < (a0.f1.length : Int) then ((linpoly_Space_Norm.f k r0 a1 (rd25 a0.f1 a1)).bind fun r10 => (tower_One.f k).bind fun r11 => some (decide (r10.f0 = r11.f0 ∧ r10.f1 = r11.f1))) else none) else none) else some false) else some false) else some false)
def steeplelaw05_LinpolyValues.sig (k : Nat) : Sig E.toTys := ⟨[.st 3, .int .i64, .st 0], [(false, .bool)], none, fun x => f k x.1 x.2.1 x.2.2.1⟩
noncomputable def steeplelaw05_LinpolyValues.body : Code := Try.f7.body.getD .skip
def steeplelaw05_LinpolyValues.calls (k : Nat) : List (Nat × Sig E.toTys) := [(33, steeplelaw05_Space_Made.sig k), (34, steeplelaw05_awake.sig k), (35, linpoly_Space_Value.sig k), (36, linpoly_Space_Norm.sig k), (37, steepleref01_Of.sig k), (15, steeplelaw01_Ref.sig k), (38, steepleref05_Value.sig k), (39, steepleref05_Norm.sig k), (40, tower_One.sig k)]
def steeplelaw05_LinpolyValues.cuts : List (Cut E (RT E.toTys [(false, .bool)])) := [⟨false, 6, ⟨cat (ds 8) (cat [.one (.ptr 0 0), .one (.ptr 1 0)] (ds 84)), [.var [.val (.int .u64), .val (.int .u64)], .var [.val (.int .u64), .val (.int .u64)]], false⟩, fun k x => steeplelaw05_LinpolyValues.j6 k x.2.1.1 x.2.1.2.1 x.2.2.1.1 x.2.2.1.2.1⟩]
theorem steeplelaw05_LinpolyValues.ok (k : Nat) : Okf (XR E) Try.prog 7 (steeplelaw05_LinpolyValues.sig k) := ⟨fn_ok (C := fun k => tab.ctx fun f => lk f (steeplelaw05_LinpolyValues.calls k)) (fun k => tie _) k (fun j hj => calls_ok (kc (steeplelaw05_Space_Made.ok j) (kc (steeplelaw05_awake.ok j) (kc (linpoly_Space_Value.ok j) (kc (linpoly_Space_Norm.ok j) (kc (steepleref01_Of.ok j) (kc (steeplelaw01_Ref.ok j) (kc (steepleref05_Value.ok j) (kc (steepleref05_Norm.ok j) (kc (tower_One.ok j) (kn))))))))))) 400 Try.func7 (body := steeplelaw05_LinpolyValues.body) (res := [.tmp 6]) rfl (by kernel_rfl) steeplelaw05_LinpolyValues.cuts (kc ⟨by kernel_rfl, rfl, fun _ => rfl, fun _ _ => by kernel_rfl⟩ (kn)) (fun x => by kernel_rfl), _, Try.func7, by kernel_rfl, by kernel_rfl⟩
/-! ### (*steeple/linpoly.Space).Point: function 46 -/
def linpoly_Space_Point.j2 : Nat → Int → Int → Option S25
  | 0, _, _ => none
  | k + 1, _, _ => some (⟨0, 0⟩ : S25)
def linpoly_Space_Point.f (k : Nat) (a0 : Option S102) (a1 : Int) : Option S25 := (match a0 with | none => linpoly_Space_Point.j2 k 0 0 | some _ => if a1 < 0 then linpoly_Space_Point.j2 k 0 0 else (match a0 with | none => none | some r0 => if 0 ≤ (r0.f1.length : Int) then (if a1 ≥ shl .i64 1 (r0.f1.length : Int) then linpoly_Space_Point.j2 k 0 0 else (match a0 with | none => none | some r1 => (span_Point.f k r1.f1 a1).bind fun r2 => some r2)) else none))
def linpoly_Space_Point.sig (k : Nat) : Sig E.toTys := ⟨[.ptr (.st 4), .int .i64], [(false, .st 0)], none, fun x => f k x.1 x.2.1⟩
noncomputable def linpoly_Space_Point.body : Code := Try.f46.body.getD .skip
def linpoly_Space_Point.calls (k : Nat) : List (Nat × Sig E.toTys) := [(24, span_Point.sig k)]
def linpoly_Space_Point.cuts : List (Cut E (RT E.toTys [(false, .st 0)])) := [⟨false, 2, ⟨cat (ds 4) (cat [.one (.ptr 0 0)] (ds 23)), [.var [.val (.int .u64), .val (.int .u64)]], false⟩, fun k x => linpoly_Space_Point.j2 k x.2.1.1 x.2.1.2.1⟩]
theorem linpoly_Space_Point.ok (k : Nat) : Okf (XR E) Try.prog 46 (linpoly_Space_Point.sig k) := ⟨fn_ok (C := fun k => tab.ctx fun f => lk f (linpoly_Space_Point.calls k)) (fun k => tie _) k (fun j hj => calls_ok (kc (span_Point.ok j) (kn))) 400 Try.func46 (body := linpoly_Space_Point.body) (res := [.cell 4 25]) rfl (by kernel_rfl) linpoly_Space_Point.cuts (kc ⟨by kernel_rfl, rfl, fun _ => rfl, fun _ _ => by kernel_rfl⟩ (kn)) (fun x => by kernel_rfl), _, Try.func46, by kernel_rfl, by kernel_rfl⟩
/-! ### (*steeple/linpoly.Space).Points: function 41 -/
mutual
def linpoly_Space_Points.j2 : Nat → Option (List S25)
  | 0 => none
  | k + 1 => some []
def linpoly_Space_Points.l5 : Nat → Option S102 → Int → Int → Int → Int → List S25 → Option (List S25)
  | 0, _, _, _, _, _, _ => none
  | k + 1, x0, x1, x2, x3, x4, x5 => if x2 < x1 then ((linpoly_Space_Point.f k x0 x2).bind fun r3 => (tower_Add.f k (⟨x3, x4⟩ : S25) r3).bind fun r4 => if x5.length + [r4].length ≤ 140737488355328 / 16 then linpoly_Space_Points.l5 k x0 x1 (wrap64 (x2 + 1)) x3 x4 (x5 ++ [r4]) else none) else some x5
end
def linpoly_Space_Points.f (k : Nat) (a0 : Option S102) (a1 : Int) (a2 : S25) : Option (List S25) := (match a0 with | none => linpoly_Space_Points.j2 k | some _ => if a1 < 0 then linpoly_Space_Points.j2 k else (match a0 with | none => none | some r0 => if a1 > (r0.f1.length : Int) then linpoly_Space_Points.j2 k else (match a0 with | none => none | some r1 => (octet_Of.f k r1.f0 a2).bind fun r2 => if (!r2) = true then linpoly_Space_Points.j2 k else if 0 ≤ a1 then linpoly_Space_Points.l5 k a0 (shl .i64 1 a1) 0 a2.f0 a2.f1 [] else none)))
def linpoly_Space_Points.sig (k : Nat) : Sig E.toTys := ⟨[.ptr (.st 4), .int .i64, .st 0], [(true, .slice (.st 0))], none, fun x => f k x.1 x.2.1 x.2.2.1⟩
noncomputable def linpoly_Space_Points.body : Code := Try.f41.body.getD .skip
def linpoly_Space_Points.calls (k : Nat) : List (Nat × Sig E.toTys) := [(67, octet_Of.sig k), (46, linpoly_Space_Point.sig k), (28, tower_Add.sig k)]
def linpoly_Space_Points.cuts : List (Cut E (RT E.toTys [(true, .slice (.st 0))])) := [⟨false, 2, ⟨ds 48, [], false⟩, fun k x => linpoly_Space_Points.j2 k⟩,
  ⟨true, 5, ⟨cat [.one (.val (.ptr (.st 4)))] (cat (ds 4) (cat [.one (.ptr 0 0)] (cat (ds 1) (cat [.one (.ref 1)] (cat (ds 26) (cat [.one (.val (.int .i64)), .one (.val (.int .i64))] (ds 12))))))), [.var [.val (.int .u64), .val (.int .u64)], .arr (.st 0)], false⟩, fun k x => linpoly_Space_Points.l5 k x.1.1 x.1.2.1 x.1.2.2.1 x.2.1.1 x.2.1.2.1 x.2.2.1⟩]
theorem linpoly_Space_Points.ok (k : Nat) : Okf (XR E) Try.prog 41 (linpoly_Space_Points.sig k) := ⟨fn_ok (C := fun k => tab.ctx fun f => lk f (linpoly_Space_Points.calls k)) (fun k => tie _) k (fun j hj => calls_ok (kc (octet_Of.ok j) (kc (linpoly_Space_Point.ok j) (kc (tower_Add.ok j) (kn))))) 400 Try.func41 (body := linpoly_Space_Points.body) (res := [.tmp 6]) rfl (by kernel_rfl) linpoly_Space_Points.cuts (kc ⟨by kernel_rfl, rfl, fun _ => rfl, fun _ _ => by kernel_rfl⟩ (kc ⟨by kernel_rfl, rfl, fun _ => rfl, fun _ _ => by kernel_rfl⟩ (kn))) (fun x => by kernel_rfl), _, Try.func41, by kernel_rfl, by kernel_rfl⟩
/-! ### steeple/steeplelaw05.LinpolyZeros: function 8 -/
mutual
def steeplelaw05_LinpolyZeros.j3 : Nat → Option Bool
  | 0 => none
  | k + 1 => (steeplelaw05_awake.f k).bind fun r10 => some r10
def steeplelaw05_LinpolyZeros.l9 : Nat → Int → Option S102 → Int → Int → Int → List S25 → Option Bool
  | 0, _, _, _, _, _, _ => none
  | k + 1, x0, x1, x2, x3, x4, x5 => if x2 < (x5.length : Int) then (if 0 ≤ x2 then (if x2 < (x5.length : Int) then ((linpoly_Space_Value.f k x1 x0 (rd25 x5 x2)).bind fun r11 => if r11.f0 = x3 ∧ r11.f1 = x4 then steeplelaw05_LinpolyZeros.l9 k x0 x1 (wrap64 (x2 + 1)) x3 x4 x5 else some false) else none) else none) else (steeplelaw05_awake.f k).bind fun r12 => some r12
end
def steeplelaw05_LinpolyZeros.f (k : Nat) (a0 : S58) (a1 : Int) (a2 : List S25) : Option Bool := (steeplelaw05_Space_Made.f k a0).bind fun r0 => (match r0 with | none => steeplelaw05_LinpolyZeros.j3 k | some _ => if a1 < 0 then steeplelaw05_LinpolyZeros.j3 k else if a1 > (a0.f1.length : Int) then steeplelaw05_LinpolyZeros.j3 k else if 0 < ((2 : Nat) : Int) then ((steepleref01_Of.f k a0.f0 (⟨(rd25 a2 (0 : Int)).f0, (rd25 a2 (0 : Int)).f1⟩ : S30)).bind fun r1 => if (!r1) = true then steeplelaw05_LinpolyZeros.j3 k else if 1 < ((2 : Nat) : Int) then ((steepleref01_Of.f k a0.f0 (⟨(rd25 a2 (1 : Int)).f0, (rd25 a2 (1 : Int)).f1⟩ : S30)).bind fun r2 => if (!r2) = true then steeplelaw05_LinpolyZeros.j3 k else if 0 < ((2 : Nat) : Int) then ((linpoly_Space_Value.f k r0 a1 (rd25 a2 (0 : Int))).bind fun r3 => if 1 < ((2 : Nat) : Int) then ((linpoly_Space_Value.f k r0 a1 (rd25 a2 (1 : Int))).bind fun r4 => if 0 < ((2 : Nat) : Int) then (if 1 < ((2 : Nat) : Int) then ((tower_Add.f k (rd25 a2 (0 : Int)) (rd25 a2 (1 : Int))).bind fun r5 => (linpoly_Space_Value.f k r0 a1 r5).bind fun r6 => (tower_Add.f k r3 r4).bind fun r7 => if r6.f0 = r7.f0 ∧ r6.f1 = r7.f1 then (if 0 ≤ a1 then (if a1 ≤ (a0.f1.length : Int) then (if 0 < ((2 : Nat) : Int) then ((span_In.f k (a0.f1.take (Int.toNat a1)) (rd25 a2 (0 : Int))).bind fun r8 => if (decide (r3.f0 = 0 ∧ r3.f1 = 0)) = r8 then (if 0 < ((2 : Nat) : Int) then ((linpoly_Space_Points.f k r0 a1 (rd25 a2 (0 : Int))).bind fun r9 => steeplelaw05_LinpolyZeros.l9 k a1 r0 0 r3.f0 r3.f1 r9) else none) else some false) else none) else none) else none) else some false) else none) else none) else none) else none) else none) else none)
def steeplelaw05_LinpolyZeros.sig (k : Nat) : Sig E.toTys := ⟨[.st 3, .int .i64, .arr 2 (.st 0)], [(false, .bool)], none, fun x => f k x.1 x.2.1 x.2.2.1⟩
noncomputable def steeplelaw05_LinpolyZeros.body : Code := Try.f8.body.getD .skip
def steeplelaw05_LinpolyZeros.calls (k : Nat) : List (Nat × Sig E.toTys) := [(33, steeplelaw05_Space_Made.sig k), (37, steepleref01_Of.sig k), (35, linpoly_Space_Value.sig k), (28, tower_Add.sig k), (19, span_In.sig k), (41, linpoly_Space_Points.sig k), (34, steeplelaw05_awake.sig k)]
def steeplelaw05_LinpolyZeros.cuts : List (Cut E (RT E.toTys [(false, .bool)])) := [⟨false, 3, ⟨ds 100, [], false⟩, fun k x => steeplelaw05_LinpolyZeros.j3 k⟩,
  ⟨true, 9, ⟨cat (ds 1) (cat [.one (.val (.int .i64))] (cat (ds 5) (cat [.one (.val (.ptr (.st 4))), .one (.ptr 0 0)] (cat (ds 1) (cat [.one (.ref 1), .one (.val (.int .i64))] (ds 88)))))), [.var [.val (.int .u64), .val (.int .u64)], .arr (.st 0)], false⟩, fun k x => steeplelaw05_LinpolyZeros.l9 k x.1.1 x.1.2.1 x.1.2.2.1 x.2.1.1 x.2.1.2.1 x.2.2.1⟩]
theorem steeplelaw05_LinpolyZeros.ok (k : Nat) : Okf (XR E) Try.prog 8 (steeplelaw05_LinpolyZeros.sig k) := ⟨fn_ok (C := fun k => tab.ctx fun f => lk f (steeplelaw05_LinpolyZeros.calls k)) (fun k => tie _) k (fun j hj => calls_ok (kc (steeplelaw05_Space_Made.ok j) (kc (steepleref01_Of.ok j) (kc (linpoly_Space_Value.ok j) (kc (tower_Add.ok j) (kc (span_In.ok j) (kc (linpoly_Space_Points.ok j) (kc (steeplelaw05_awake.ok j) (kn))))))))) 400 Try.func8 (body := steeplelaw05_LinpolyZeros.body) (res := [.tmp 6]) rfl (by kernel_rfl) steeplelaw05_LinpolyZeros.cuts (kc ⟨by kernel_rfl, rfl, fun _ => rfl, fun _ _ => by kernel_rfl⟩ (kc ⟨by kernel_rfl, rfl, fun _ => rfl, fun _ _ => by kernel_rfl⟩ (kn))) (fun x => by kernel_rfl), _, Try.func8, by kernel_rfl, by kernel_rfl⟩
/-! ### steeple/steepleref05.Check: function 43 -/
mutual
def steepleref05_Check.l6 : Nat → Int → List S30 → Int → Option Int
  | 0, _, _, _ => none
  | k + 1, x0, x1, x2 => if x2 < (x1.length : Int) then (if 0 ≤ x2 then (if x2 < (x1.length : Int) then ((steepleref01_Of.f k x0 (rd30 x1 x2)).bind fun r0 => if (!r0) = true then some 5 else steepleref05_Check.l6 k x0 x1 (wrap64 (x2 + 1))) else none) else none) else steepleref05_Check.l11 k x1 0
def steepleref05_Check.l11 : Nat → List S30 → Int → Option Int
  | 0, _, _ => none
  | k + 1, x0, x1 => if x1 < (x0.length : Int) then (if 0 ≤ x1 then (if x1 ≤ (x0.length : Int) then (if 0 ≤ x1 then (if x1 < (x0.length : Int) then ((steepleref04_In.f k (x0.take (Int.toNat x1)) (rd30 x0 x1)).bind fun r1 => if r1 = true then some 7 else steepleref05_Check.l11 k x0 (wrap64 (x1 + 1))) else none) else none) else none) else none) else some 0
end
def steepleref05_Check.f (k : Nat) (a0 : Int) (a1 : List S30) : Option Int := if a0 < 0 then some 1 else if a0 > 7 then some 1 else if (a1.length : Int) > 10 then some 2 else steepleref05_Check.l6 k a0 a1 0
def steepleref05_Check.sig (k : Nat) : Sig E.toTys := ⟨[.int .i64, .slice (.st 1)], [(false, .int .i64)], none, fun x => f k x.1 x.2.1⟩
noncomputable def steepleref05_Check.body : Code := Try.f43.body.getD .skip
def steepleref05_Check.calls (k : Nat) : List (Nat × Sig E.toTys) := [(37, steepleref01_Of.sig k), (20, steepleref04_In.sig k)]
def steepleref05_Check.cuts : List (Cut E (RT E.toTys [(false, .int .i64)])) := [⟨true, 6, ⟨cat [.one (.val (.int .i64)), .one (.val (.slice (.st 1)))] (cat (ds 3) (cat [.one (.val (.int .i64))] (ds 37))), [], false⟩, fun k x => steepleref05_Check.l6 k x.1.1 x.1.2.1 x.1.2.2.1⟩,
  ⟨true, 11, ⟨cat (ds 1) (cat [.one (.val (.slice (.st 1)))] (cat (ds 4) (cat [.one (.val (.int .i64))] (ds 36)))), [], false⟩, fun k x => steepleref05_Check.l11 k x.1.1 x.1.2.1⟩]
theorem steepleref05_Check.ok (k : Nat) : Okf (XR E) Try.prog 43 (steepleref05_Check.sig k) := ⟨fn_ok (C := fun k => tab.ctx fun f => lk f (steepleref05_Check.calls k)) (fun k => tie _) k (fun j hj => calls_ok (kc (steepleref01_Of.ok j) (kc (steepleref04_In.ok j) (kn)))) 400 Try.func43 (body := steepleref05_Check.body) (res := [.tmp 4]) rfl (by kernel_rfl) steepleref05_Check.cuts (kc ⟨by kernel_rfl, rfl, fun _ => rfl, fun _ _ => by kernel_rfl⟩ (kc ⟨by kernel_rfl, rfl, fun _ => rfl, fun _ _ => by kernel_rfl⟩ (kn))) (fun x => by kernel_rfl), _, Try.func43, by kernel_rfl, by kernel_rfl⟩
/-! ### (*steeple/linpoly.Space).Level: function 44 -/
def linpoly_Space_Level.f (k : Nat) (a0 : Option S102) : Option Int := (match a0 with | none => some 0 | some _ => (match a0 with | none => none | some r0 => some r0.f0))
def linpoly_Space_Level.sig (k : Nat) : Sig E.toTys := ⟨[.ptr (.st 4)], [(false, .int .i64)], none, fun x => f k x.1⟩
noncomputable def linpoly_Space_Level.body : Code := Try.f44.body.getD .skip
def linpoly_Space_Level.calls (k : Nat) : List (Nat × Sig E.toTys) := []
def linpoly_Space_Level.cuts : List (Cut E (RT E.toTys [(false, .int .i64)])) := []
theorem linpoly_Space_Level.ok (k : Nat) : Okf (XR E) Try.prog 44 (linpoly_Space_Level.sig k) := ⟨fn_ok (C := fun k => tab.ctx fun f => lk f (linpoly_Space_Level.calls k)) (fun k => tie _) k (fun j hj => calls_ok (kn)) 400 Try.func44 (body := linpoly_Space_Level.body) (res := [.tmp 2]) rfl (by kernel_rfl) linpoly_Space_Level.cuts (kn) (fun x => by kernel_rfl), _, Try.func44, by kernel_rfl, by kernel_rfl⟩
/-! ### steeple/steeplelaw05.LinpolyMakes: function 9 -/
mutual
def steeplelaw05_LinpolyMakes.j6 : Nat → Int → Option S102 → Int → List S25 → Int → Int → Option Bool
  | 0, _, _, _, _, _, _ => none
  | k + 1, x0, x1, x2, x3, x4, x5 => (match x1 with | none => steeplelaw05_LinpolyMakes.j7 k | some _ => if (x3.length : Int) > 6 then steeplelaw05_LinpolyMakes.j7 k else (linpoly_Space_Level.f k x1).bind fun r4 => if r4 = x2 then ((linpoly_Space_Dim.f k x1).bind fun r5 => if r5 = (x3.length : Int) then ((linpoly_Space_Points.f k x1 x0 (⟨x4, x5⟩ : S25)).bind fun r6 => if x0 < 0 then steeplelaw05_LinpolyMakes.j12 k x1 x2 x3 r6 else if x0 > (x3.length : Int) then steeplelaw05_LinpolyMakes.j12 k x1 x2 x3 r6 else (steepleref01_Of.f k x2 (⟨x4, x5⟩ : S30)).bind fun r7 => if (!r7) = true then steeplelaw05_LinpolyMakes.j12 k x1 x2 x3 r6 else (steeplelaw01_Ref.f k x3).bind fun r8 => (steepleref05_Points.f k r8 x0 (⟨x4, x5⟩ : S30)).bind fun r9 => (steeplelaw01_Same.f k r6 r9).bind fun r10 => if (!r10) = true then some false else steeplelaw05_LinpolyMakes.l17 k x1 0 x4 x5 r6) else steeplelaw05_LinpolyMakes.j9 k) else steeplelaw05_LinpolyMakes.j9 k)
def steeplelaw05_LinpolyMakes.j5 : Nat → Option Bool
  | 0 => none
  | k + 1 => some false
def steeplelaw05_LinpolyMakes.j7 : Nat → Option Bool
  | 0 => none
  | k + 1 => (steeplelaw05_awake.f k).bind fun r11 => some r11
def steeplelaw05_LinpolyMakes.j12 : Nat → Option S102 → Int → List S25 → List S25 → Option Bool
  | 0, _, _, _, _ => none
  | k + 1, x0, _, x2, x3 => (steeplelaw05_awake.f k).bind fun r12 => if r12 = true then (if (x3.length : Int) = 0 then ((linpoly_Space_Point.f k x0 (-1)).bind fun r13 => if r13.f0 = 0 ∧ r13.f1 = 0 then (if 0 ≤ IntKind.u64.wrap (x2.length : Int) then ((linpoly_Space_Point.f k x0 (shl .i64 1 (IntKind.u64.wrap (x2.length : Int)))).bind fun r14 => some (decide (r14.f0 = 0 ∧ r14.f1 = 0))) else none) else some false) else some false) else some false
def steeplelaw05_LinpolyMakes.l17 : Nat → Option S102 → Int → Int → Int → List S25 → Option Bool
  | 0, _, _, _, _, _ => none
  | k + 1, x0, x1, x2, x3, x4 => if x1 < (x4.length : Int) then ((linpoly_Space_Point.f k x0 x1).bind fun r15 => if 0 ≤ x1 then (if x1 < (x4.length : Int) then ((tower_Add.f k (rd25 x4 x1) (⟨x2, x3⟩ : S25)).bind fun r16 => if r15.f0 = r16.f0 ∧ r15.f1 = r16.f1 then steeplelaw05_LinpolyMakes.l17 k x0 (wrap64 (x1 + 1)) x2 x3 x4 else some false) else none) else none) else (steeplelaw05_awake.f k).bind fun r17 => some r17
def steeplelaw05_LinpolyMakes.j9 : Nat → Option Bool
  | 0 => none
  | k + 1 => some false
end
def steeplelaw05_LinpolyMakes.f (k : Nat) (a0 : S58) (a1 : Int) (a2 : S25) : Option Bool := if (a0.f1.length : Int) > 12 then ((steeplelaw05_awake.f k).bind fun r0 => some r0) else (linpoly_New.f k a0.f0 a0.f1).bind fun r1 => (steeplelaw01_Ref.f k a0.f1).bind fun r2 => (steepleref05_Check.f k a0.f0 r2).bind fun r3 => if r1.2 = r3 then ((match r1.1 with | none => if false = (decide (r1.2 = 0)) then steeplelaw05_LinpolyMakes.j6 k a1 r1.1 a0.f0 a0.f1 a2.f0 a2.f1 else steeplelaw05_LinpolyMakes.j5 k | some _ => if true = (decide (r1.2 = 0)) then steeplelaw05_LinpolyMakes.j6 k a1 r1.1 a0.f0 a0.f1 a2.f0 a2.f1 else steeplelaw05_LinpolyMakes.j5 k)) else steeplelaw05_LinpolyMakes.j5 k
def steeplelaw05_LinpolyMakes.sig (k : Nat) : Sig E.toTys := ⟨[.st 3, .int .i64, .st 0], [(false, .bool)], none, fun x => f k x.1 x.2.1 x.2.2.1⟩
noncomputable def steeplelaw05_LinpolyMakes.body : Code := Try.f9.body.getD .skip
def steeplelaw05_LinpolyMakes.calls (k : Nat) : List (Nat × Sig E.toTys) := [(34, steeplelaw05_awake.sig k), (42, linpoly_New.sig k), (15, steeplelaw01_Ref.sig k), (43, steepleref05_Check.sig k), (44, linpoly_Space_Level.sig k), (45, linpoly_Space_Dim.sig k), (41, linpoly_Space_Points.sig k), (37, steepleref01_Of.sig k), (47, steepleref05_Points.sig k), (16, steeplelaw01_Same.sig k), (46, linpoly_Space_Point.sig k), (28, tower_Add.sig k)]
def steeplelaw05_LinpolyMakes.cuts : List (Cut E (RT E.toTys [(false, .bool)])) := [⟨false, 6, ⟨cat (ds 1) (cat [.one (.val (.int .i64))] (cat (ds 1) (cat [.one (.ptr 0 0)] (cat (ds 1) (cat [.one (.ptr 1 0)] (cat (ds 1) (cat [.one (.val (.ptr (.st 4)))] (ds 124)))))))), [.var [.val (.int .i64), .val (.slice (.st 0))], .var [.val (.int .u64), .val (.int .u64)]], false⟩, fun k x => steeplelaw05_LinpolyMakes.j6 k x.1.1 x.1.2.1 x.2.1.1 x.2.1.2.1 x.2.2.1.1 x.2.2.1.2.1⟩,
  ⟨false, 5, ⟨ds 132, [], false⟩, fun k x => steeplelaw05_LinpolyMakes.j5 k⟩,
  ⟨false, 7, ⟨ds 132, [], false⟩, fun k x => steeplelaw05_LinpolyMakes.j7 k⟩,
  ⟨false, 12, ⟨cat (ds 3) (cat [.one (.ptr 0 0)] (cat (ds 3) (cat [.one (.val (.ptr (.st 4)))] (cat (ds 1) (cat [.one (.ref 1)] (ds 122)))))), [.var [.val (.int .i64), .val (.slice (.st 0))], .arr (.st 0)], false⟩, fun k x => steeplelaw05_LinpolyMakes.j12 k x.1.1 x.2.1.1 x.2.1.2.1 x.2.2.1⟩,
  ⟨true, 17, ⟨cat (ds 5) (cat [.one (.ptr 0 0)] (cat (ds 1) (cat [.one (.val (.ptr (.st 4)))] (cat (ds 1) (cat [.one (.ref 1)] (cat (ds 1) (cat [.one (.val (.int .i64))] (ds 120)))))))), [.var [.val (.int .u64), .val (.int .u64)], .arr (.st 0)], false⟩, fun k x => steeplelaw05_LinpolyMakes.l17 k x.1.1 x.1.2.1 x.2.1.1 x.2.1.2.1 x.2.2.1⟩,
  ⟨false, 9, ⟨ds 132, [], false⟩, fun k x => steeplelaw05_LinpolyMakes.j9 k⟩]
theorem steeplelaw05_LinpolyMakes.ok (k : Nat) : Okf (XR E) Try.prog 9 (steeplelaw05_LinpolyMakes.sig k) := ⟨fn_ok (C := fun k => tab.ctx fun f => lk f (steeplelaw05_LinpolyMakes.calls k)) (fun k => tie _) k (fun j hj => calls_ok (kc (steeplelaw05_awake.ok j) (kc (linpoly_New.ok j) (kc (steeplelaw01_Ref.ok j) (kc (steepleref05_Check.ok j) (kc (linpoly_Space_Level.ok j) (kc (linpoly_Space_Dim.ok j) (kc (linpoly_Space_Points.ok j) (kc (steepleref01_Of.ok j) (kc (steepleref05_Points.ok j) (kc (steeplelaw01_Same.ok j) (kc (linpoly_Space_Point.ok j) (kc (tower_Add.ok j) (kn)))))))))))))) 400 Try.func9 (body := steeplelaw05_LinpolyMakes.body) (res := [.tmp 6]) rfl (by kernel_rfl) steeplelaw05_LinpolyMakes.cuts (kc ⟨by kernel_rfl, rfl, fun _ => rfl, fun _ _ => by kernel_rfl⟩ (kc ⟨by kernel_rfl, rfl, fun _ => rfl, fun _ _ => by kernel_rfl⟩ (kc ⟨by kernel_rfl, rfl, fun _ => rfl, fun _ _ => by kernel_rfl⟩ (kc ⟨by kernel_rfl, rfl, fun _ => rfl, fun _ _ => by kernel_rfl⟩ (kc ⟨by kernel_rfl, rfl, fun _ => rfl, fun _ _ => by kernel_rfl⟩ (kc ⟨by kernel_rfl, rfl, fun _ => rfl, fun _ _ => by kernel_rfl⟩ (kn))))))) (fun x => by kernel_rfl), _, Try.func9, by kernel_rfl, by kernel_rfl⟩
/-! ### steeple/linpoly.Plain: function 48 -/
def linpoly_Plain.l9 : Nat → Int → Int → Int → List S25 → Option ((Option S102) × Int)
  | 0, _, _, _, _ => none
  | k + 1, x0, x1, x2, x3 => if x2 < x1 then ((tower_Bit.f k x2).bind fun r1 => if x3.length + [r1].length ≤ 140737488355328 / 16 then linpoly_Plain.l9 k x0 x1 (wrap64 (x2 + 1)) (x3 ++ [r1]) else none) else (linpoly_New.f k x0 x3).bind fun r2 => some (r2.1, r2.2)
def linpoly_Plain.f (k : Nat) (a0 : Int) (a1 : Int) : Option ((Option S102) × Int) := (octet_Wide.f k a0).bind fun r0 => if r0 = 0 then some (none, 1) else if a1 < 0 then some (none, 1) else if a1 > 10 then some (none, 2) else if 0 ≤ a0 then (if a1 > shl .i64 1 a0 then some (none, 7) else linpoly_Plain.l9 k a0 a1 0 []) else none
def linpoly_Plain.sig (k : Nat) : Sig E.toTys := ⟨[.int .i64, .int .i64], [(false, .ptr (.st 4)), (false, .int .i64)], none, fun x => f k x.1 x.2.1⟩
noncomputable def linpoly_Plain.body : Code := Try.f48.body.getD .skip
def linpoly_Plain.calls (k : Nat) : List (Nat × Sig E.toTys) := [(73, octet_Wide.sig k), (32, tower_Bit.sig k), (42, linpoly_New.sig k)]
def linpoly_Plain.cuts : List (Cut E (RT E.toTys [(false, .ptr (.st 4)), (false, .int .i64)])) := [⟨true, 9, ⟨cat [.one (.val (.int .i64))] (cat (ds 5) (cat [.one (.ref 0)] (cat (ds 17) (cat [.one (.val (.int .i64)), .one (.val (.int .i64))] (ds 13))))), [.arr (.st 0)], false⟩, fun k x => linpoly_Plain.l9 k x.1.1 x.1.2.1 x.1.2.2.1 x.2.1⟩]
theorem linpoly_Plain.ok (k : Nat) : Okf (XR E) Try.prog 48 (linpoly_Plain.sig k) := ⟨fn_ok (C := fun k => tab.ctx fun f => lk f (linpoly_Plain.calls k)) (fun k => tie _) k (fun j hj => calls_ok (kc (octet_Wide.ok j) (kc (tower_Bit.ok j) (kc (linpoly_New.ok j) (kn))))) 400 Try.func48 (body := linpoly_Plain.body) (res := [.tmp 4, .tmp 5]) rfl (by kernel_rfl) linpoly_Plain.cuts (kc ⟨by kernel_rfl, rfl, fun _ => rfl, fun _ _ => by kernel_rfl⟩ (kn)) (fun x => by kernel_rfl), _, Try.func48, by kernel_rfl, by kernel_rfl⟩
/-! ### steeple/steeplelaw05.LinpolyPlain: function 10 -/
mutual
def steeplelaw05_LinpolyPlain.j9 : Nat → Int → Int → Option S102 → Int → Int → Option Bool
  | 0, _, _, _, _, _ => none
  | k + 1, x0, x1, x2, x3, x4 => if x3 = x4 then (if x3 = 0 then steeplelaw05_LinpolyPlain.l12 k x0 x1 x2 0 else steeplelaw05_LinpolyPlain.j10 k x2 x3 x4) else steeplelaw05_LinpolyPlain.j10 k x2 x3 x4
def steeplelaw05_LinpolyPlain.l12 : Nat → Int → Int → Option S102 → Int → Option Bool
  | 0, _, _, _, _ => none
  | k + 1, x0, x1, x2, x3 => if x3 < x1 then (if 0 ≤ IntKind.u64.wrap x3 then ((linpoly_Space_Point.f k x2 (shl .i64 1 (IntKind.u64.wrap x3))).bind fun r1 => (tower_Bit.f k x3).bind fun r2 => if r1.f0 = r2.f0 ∧ r1.f1 = r2.f1 then steeplelaw05_LinpolyPlain.l12 k x0 x1 x2 (wrap64 (x3 + 1)) else some false) else none) else (steeplelaw05_awake.f k).bind fun r3 => if r3 = true then ((linpoly_Space_Dim.f k x2).bind fun r4 => if r4 = x1 then ((linpoly_Space_Level.f k x2).bind fun r5 => some (decide (r5 = x0))) else some false) else some false
def steeplelaw05_LinpolyPlain.j10 : Nat → Option S102 → Int → Int → Option Bool
  | 0, _, _, _ => none
  | k + 1, x0, x1, x2 => (steeplelaw05_awake.f k).bind fun r6 => if r6 = true then (if x1 = x2 then ((match x0 with | none => some true | some _ => some false)) else some false) else some false
end
def steeplelaw05_LinpolyPlain.f (k : Nat) (a0 : Int) (a1 : Int) : Option Bool := (linpoly_Plain.f k a0 a1).bind fun r0 => if a0 < 0 then steeplelaw05_LinpolyPlain.j9 k a0 a1 r0.1 r0.2 1 else if a0 > 7 then steeplelaw05_LinpolyPlain.j9 k a0 a1 r0.1 r0.2 1 else if a1 < 0 then steeplelaw05_LinpolyPlain.j9 k a0 a1 r0.1 r0.2 1 else if a1 > 10 then steeplelaw05_LinpolyPlain.j9 k a0 a1 r0.1 r0.2 2 else if a0 < 4 then (if 0 ≤ a0 then (if a0 < ([1, 2, 4, 8].length : Int) then (if a1 > rdI [1, 2, 4, 8] a0 then steeplelaw05_LinpolyPlain.j9 k a0 a1 r0.1 r0.2 7 else steeplelaw05_LinpolyPlain.j9 k a0 a1 r0.1 r0.2 0) else none) else none) else steeplelaw05_LinpolyPlain.j9 k a0 a1 r0.1 r0.2 0
def steeplelaw05_LinpolyPlain.sig (k : Nat) : Sig E.toTys := ⟨[.int .i64, .int .i64], [(false, .bool)], none, fun x => f k x.1 x.2.1⟩
noncomputable def steeplelaw05_LinpolyPlain.body : Code := Try.f10.body.getD .skip
def steeplelaw05_LinpolyPlain.calls (k : Nat) : List (Nat × Sig E.toTys) := [(48, linpoly_Plain.sig k), (46, linpoly_Space_Point.sig k), (32, tower_Bit.sig k), (34, steeplelaw05_awake.sig k), (45, linpoly_Space_Dim.sig k), (44, linpoly_Space_Level.sig k)]
def steeplelaw05_LinpolyPlain.cuts : List (Cut E (RT E.toTys [(false, .bool)])) := [⟨false, 9, ⟨cat [.one (.val (.int .i64)), .one (.val (.int .i64))] (cat (ds 3) (cat [.one (.val (.ptr (.st 4))), .one (.val (.int .i64)), .one (.val (.int .i64))] (ds 72))), [], false⟩, fun k x => steeplelaw05_LinpolyPlain.j9 k x.1.1 x.1.2.1 x.1.2.2.1 x.1.2.2.2.1 x.1.2.2.2.2.1⟩,
  ⟨true, 12, ⟨cat [.one (.val (.int .i64)), .one (.val (.int .i64))] (cat (ds 3) (cat [.one (.val (.ptr (.st 4)))] (cat (ds 2) (cat [.one (.val (.int .i64))] (ds 71))))), [], false⟩, fun k x => steeplelaw05_LinpolyPlain.l12 k x.1.1 x.1.2.1 x.1.2.2.1 x.1.2.2.2.1⟩,
  ⟨false, 10, ⟨cat (ds 5) (cat [.one (.val (.ptr (.st 4))), .one (.val (.int .i64)), .one (.val (.int .i64))] (ds 72)), [], false⟩, fun k x => steeplelaw05_LinpolyPlain.j10 k x.1.1 x.1.2.1 x.1.2.2.1⟩]
theorem steeplelaw05_LinpolyPlain.ok (k : Nat) : Okf (XR E) Try.prog 10 (steeplelaw05_LinpolyPlain.sig k) := ⟨fn_ok (C := fun k => tab.ctx fun f => lk f (steeplelaw05_LinpolyPlain.calls k)) (fun k => tie _) k (fun j hj => calls_ok (kc (linpoly_Plain.ok j) (kc (linpoly_Space_Point.ok j) (kc (tower_Bit.ok j) (kc (steeplelaw05_awake.ok j) (kc (linpoly_Space_Dim.ok j) (kc (linpoly_Space_Level.ok j) (kn)))))))) 400 Try.func10 (body := steeplelaw05_LinpolyPlain.body) (res := [.tmp 4]) rfl (by kernel_rfl) steeplelaw05_LinpolyPlain.cuts (kc ⟨by kernel_rfl, rfl, fun _ => rfl, fun _ _ => by kernel_rfl⟩ (kc ⟨by kernel_rfl, rfl, fun _ => rfl, fun _ _ => by kernel_rfl⟩ (kc ⟨by kernel_rfl, rfl, fun _ => rfl, fun _ _ => by kernel_rfl⟩ (kn)))) (fun x => by kernel_rfl), _, Try.func10, by kernel_rfl, by kernel_rfl⟩
end Go.Proofs.Ytohlooljopjmjaa.B
namespace Go.Proofs.Ytohlooljopjmjaa.B
open Go.Proofs.Ytohlooljopjmjaa.V.B Go.RowKit
set_option linter.unusedVariables false
/-! ### steeple/tower.Square: function 78 -/
def tower_Square.f (k : Nat) (a0 : Int) (a1 : S25) : Option S25 := (octet_Of.f k a0 a1).bind fun r0 => if (!r0) = true then some (⟨0, 0⟩ : S25) else if a0 ≤ 6 then ((tower_square.f k a0 a1.f1).bind fun r1 => some (⟨0, r1⟩ : S25)) else (tower_square.f k 6 a1.f0).bind fun r2 => (tower_mulX.f k 6 r2).bind fun r3 => (tower_square.f k 6 a1.f1).bind fun r4 => some (⟨r3, bits .xor .u64 r4 r2⟩ : S25)
def tower_Square.sig (k : Nat) : Sig E.toTys := ⟨[.int .i64, .st 0], [(false, .st 0)], none, fun x => f k x.1 x.2.1⟩
noncomputable def tower_Square.body : Code := Try.f78.body.getD .skip
def tower_Square.calls (k : Nat) : List (Nat × Sig E.toTys) := [(67, octet_Of.sig k), (88, tower_square.sig k), (84, tower_mulX.sig k)]
def tower_Square.cuts : List (Cut E (RT E.toTys [(false, .st 0)])) := []
theorem tower_Square.ok (k : Nat) : Okf (XR E) Try.prog 78 (tower_Square.sig k) := ⟨fn_ok (C := fun k => tab.ctx fun f => lk f (tower_Square.calls k)) (fun k => tie _) k (fun j hj => calls_ok (kc (octet_Of.ok j) (kc (tower_square.ok j) (kc (tower_mulX.ok j) (kn))))) 400 Try.func78 (body := tower_Square.body) (res := [.cell 4 25]) rfl (by kernel_rfl) tower_Square.cuts (kn) (fun x => by kernel_rfl), _, Try.func78, by kernel_rfl, by kernel_rfl⟩
/-! ### steeple/linpoly.Eval: function 49 -/
def linpoly_Eval.l5 : Nat → Int → List S25 → Int → Int → Int → Int → Int → Int → Int → Int → Option S25
  | 0, _, _, _, _, _, _, _, _, _, _ => none
  | k + 1, x0, x1, x2, x3, x4, x5, x6, x7, x8, x9 => if x3 < x2 then (if 0 ≤ x3 then (if x3 < (x1.length : Int) then ((octet_Of.f k x0 (rd25 x1 x3)).bind fun r1 => if (!r1) = true then some (⟨0, 0⟩ : S25) else (tower_Mul.f k x0 (rd25 x1 x3) (⟨x4, x5⟩ : S25)).bind fun r2 => (tower_Add.f k (⟨x8, x9⟩ : S25) r2).bind fun r3 => (tower_Square.f k x0 (⟨x4, x5⟩ : S25)).bind fun r4 => linpoly_Eval.l5 k x0 x1 x2 (wrap64 (x3 + 1)) r4.f0 r4.f1 x6 x7 r3.f0 r3.f1) else none) else none) else some (⟨x8, x9⟩ : S25)
def linpoly_Eval.f (k : Nat) (a0 : Int) (a1 : List S25) (a2 : S25) : Option S25 := (octet_Of.f k a0 a2).bind fun r0 => if (!r0) = true then some (⟨0, 0⟩ : S25) else linpoly_Eval.l5 k a0 a1 (a1.length : Int) 0 a2.f0 a2.f1 0 0 0 0
def linpoly_Eval.sig (k : Nat) : Sig E.toTys := ⟨[.int .i64, .slice (.st 0), .st 0], [(false, .st 0)], none, fun x => f k x.1 x.2.1 x.2.2.1⟩
noncomputable def linpoly_Eval.body : Code := Try.f49.body.getD .skip
def linpoly_Eval.calls (k : Nat) : List (Nat × Sig E.toTys) := [(67, octet_Of.sig k), (69, tower_Mul.sig k), (28, tower_Add.sig k), (78, tower_Square.sig k)]
def linpoly_Eval.cuts : List (Cut E (RT E.toTys [(false, .st 0)])) := [⟨true, 5, ⟨cat [.one (.val (.int .i64))] (cat (ds 4) (cat [.one (.ptr 0 0), .one (.ptr 1 0), .one (.ptr 2 0)] (cat (ds 7) (cat [.one (.val (.slice (.st 0))), .one (.val (.int .i64)), .one (.val (.int .i64))] (ds 19))))), [.var [.val (.int .u64), .val (.int .u64)], .var [.val (.int .u64), .val (.int .u64)], .var [.val (.int .u64), .val (.int .u64)]], false⟩, fun k x => linpoly_Eval.l5 k x.1.1 x.1.2.1 x.1.2.2.1 x.1.2.2.2.1 x.2.1.1 x.2.1.2.1 x.2.2.1.1 x.2.2.1.2.1 x.2.2.2.1.1 x.2.2.2.1.2.1⟩]
theorem linpoly_Eval.ok (k : Nat) : Okf (XR E) Try.prog 49 (linpoly_Eval.sig k) := ⟨fn_ok (C := fun k => tab.ctx fun f => lk f (linpoly_Eval.calls k)) (fun k => tie _) k (fun j hj => calls_ok (kc (octet_Of.ok j) (kc (tower_Mul.ok j) (kc (tower_Add.ok j) (kc (tower_Square.ok j) (kn)))))) 400 Try.func49 (body := linpoly_Eval.body) (res := [.cell 6 25]) rfl (by kernel_rfl) linpoly_Eval.cuts (kc ⟨by kernel_rfl, rfl, fun _ => rfl, fun _ _ => by kernel_rfl⟩ (kn)) (fun x => by kernel_rfl), _, Try.func49, by kernel_rfl, by kernel_rfl⟩
/-! ### steeple/steepleref05.Eval: function 50 -/
def steepleref05_Eval.l6 : Nat → Int → List S30 → Int → Int → Int → Int → Int → Int → Int → Option S30
  | 0, _, _, _, _, _, _, _, _, _ => none
  | k + 1, x0, x1, x2, x3, x4, x5, x6, x7, x8 => if x2 < (x1.length : Int) then (if 0 ≤ x2 then (if x2 < (x1.length : Int) then ((steepleref01_Of.f k x0 (rd30 x1 x2)).bind fun r1 => if (!r1) = true then some (⟨0, 0⟩ : S30) else if 0 ≤ x2 then (if x2 < (x1.length : Int) then ((steepleref02_Product.f k (rd30 x1 x2) (⟨x7, x8⟩ : S30)).bind fun r2 => (steepleref02_Add.f k (⟨x5, x6⟩ : S30) r2).bind fun r3 => (steepleref02_Product.f k (⟨x7, x8⟩ : S30) (⟨x7, x8⟩ : S30)).bind fun r4 => steepleref05_Eval.l6 k x0 x1 (wrap64 (x2 + 1)) x3 x4 r3.f0 r3.f1 r4.f0 r4.f1) else none) else none) else none) else none) else some (⟨x5, x6⟩ : S30)
def steepleref05_Eval.f (k : Nat) (a0 : Int) (a1 : List S30) (a2 : S30) : Option S30 := (steepleref01_Of.f k a0 a2).bind fun r0 => if (!r0) = true then some (⟨0, 0⟩ : S30) else steepleref05_Eval.l6 k a0 a1 0 0 0 0 0 a2.f0 a2.f1
def steepleref05_Eval.sig (k : Nat) : Sig E.toTys := ⟨[.int .i64, .slice (.st 1), .st 1], [(false, .st 1)], none, fun x => f k x.1 x.2.1 x.2.2.1⟩
noncomputable def steepleref05_Eval.body : Code := Try.f50.body.getD .skip
def steepleref05_Eval.calls (k : Nat) : List (Nat × Sig E.toTys) := [(37, steepleref01_Of.sig k), (71, steepleref02_Product.sig k), (60, steepleref02_Add.sig k)]
def steepleref05_Eval.cuts : List (Cut E (RT E.toTys [(false, .st 1)])) := [⟨true, 6, ⟨cat [.one (.val (.int .i64)), .one (.val (.slice (.st 1)))] (cat (ds 4) (cat [.one (.ptr 0 0), .one (.ptr 1 0), .one (.ptr 2 0), .one (.val (.int .i64))] (ds 32))), [.var [.val (.int .u64), .val (.int .u64)], .var [.val (.int .u64), .val (.int .u64)], .var [.val (.int .u64), .val (.int .u64)]], false⟩, fun k x => steepleref05_Eval.l6 k x.1.1 x.1.2.1 x.1.2.2.1 x.2.1.1 x.2.1.2.1 x.2.2.1.1 x.2.2.1.2.1 x.2.2.2.1.1 x.2.2.2.1.2.1⟩]
theorem steepleref05_Eval.ok (k : Nat) : Okf (XR E) Try.prog 50 (steepleref05_Eval.sig k) := ⟨fn_ok (C := fun k => tab.ctx fun f => lk f (steepleref05_Eval.calls k)) (fun k => tie _) k (fun j hj => calls_ok (kc (steepleref01_Of.ok j) (kc (steepleref02_Product.ok j) (kc (steepleref02_Add.ok j) (kn))))) 400 Try.func50 (body := steepleref05_Eval.body) (res := [.cell 6 30]) rfl (by kernel_rfl) steepleref05_Eval.cuts (kc ⟨by kernel_rfl, rfl, fun _ => rfl, fun _ _ => by kernel_rfl⟩ (kn)) (fun x => by kernel_rfl), _, Try.func50, by kernel_rfl, by kernel_rfl⟩
/-! ### (*steeple/linpoly.Space).Coeffs: function 51 -/
mutual
def linpoly_Space_Coeffs.l5 : Nat → Option S102 → Int → Int → List S25 → Option (List S25)
  | 0, _, _, _, _ => none
  | k + 1, x0, x1, x2, x3 => if x2 < x1 then (if 0 ≤ wrap64 ((x3.length : Int) + 1) then (if wrap64 ((x3.length : Int) + 1) ≤ 140737488355328 / ((16 : Nat) : Int) then linpoly_Space_Coeffs.l9 k x0 x2 x1 x2 (x3.length : Int) 0 (List.replicate (Int.toNat (wrap64 ((x3.length : Int) + 1))) z25) x3 else none) else none) else some x3
def linpoly_Space_Coeffs.l9 : Nat → Option S102 → Int → Int → Int → Int → Int → List S25 → List S25 → Option (List S25)
  | 0, _, _, _, _, _, _, _, _ => none
  | k + 1, x0, x1, x2, x3, x4, x5, x6, x7 => if x5 < x4 then (if 0 ≤ x5 then (if x5 < (x7.length : Int) then (if 0 ≤ wrap64 (x5 + 1) then (if wrap64 (x5 + 1) < (x6.length : Int) then ((match x0 with | none => none | some r2 => (tower_Square.f k r2.f0 (rd25 x7 x5)).bind fun r3 => (tower_Add.f k (rd25 x6 (wrap64 (x5 + 1))) r3).bind fun r4 => if 0 ≤ wrap64 (x5 + 1) then (if wrap64 (x5 + 1) < (x6.length : Int) then (if 0 ≤ x5 then (if x5 < ((x6.set (Int.toNat (wrap64 (x5 + 1))) r4).length : Int) then ((match x0 with | none => none | some r5 => (match x0 with | none => none | some r6 => if 0 ≤ x1 then (if x1 < (r6.f2.length : Int) then ((tower_Mul.f k r5.f0 (rd25 x7 x5) (rd25 r6.f2 x1)).bind fun r7 => (tower_Add.f k (rd25 (x6.set (Int.toNat (wrap64 (x5 + 1))) r4) x5) r7).bind fun r8 => if 0 ≤ x5 then (if x5 < ((x6.set (Int.toNat (wrap64 (x5 + 1))) r4).length : Int) then linpoly_Space_Coeffs.l9 k x0 x1 x2 x3 x4 (wrap64 (x5 + 1)) ((x6.set (Int.toNat (wrap64 (x5 + 1))) r4).set (Int.toNat x5) r8) x7 else none) else none) else none) else none))) else none) else none) else none) else none)) else none) else none) else none) else none) else linpoly_Space_Coeffs.l5 k x0 x2 (wrap64 (x3 + 1)) x6
end
def linpoly_Space_Coeffs.f (k : Nat) (a0 : Option S102) (a1 : Int) : Option (List S25) := (match a0 with | none => some [] | some _ => if a1 < 0 then some [] else (match a0 with | none => none | some r0 => if a1 > (r0.f1.length : Int) then some [] else (tower_One.f k).bind fun r1 => linpoly_Space_Coeffs.l5 k a0 a1 0 [r1]))
def linpoly_Space_Coeffs.sig (k : Nat) : Sig E.toTys := ⟨[.ptr (.st 4), .int .i64], [(true, .slice (.st 0))], none, fun x => f k x.1 x.2.1⟩
noncomputable def linpoly_Space_Coeffs.body : Code := Try.f51.body.getD .skip
def linpoly_Space_Coeffs.calls (k : Nat) : List (Nat × Sig E.toTys) := [(40, tower_One.sig k), (78, tower_Square.sig k), (28, tower_Add.sig k), (69, tower_Mul.sig k)]
def linpoly_Space_Coeffs.cuts : List (Cut E (RT E.toTys [(true, .slice (.st 0))])) := [⟨true, 5, ⟨cat [.one (.val (.ptr (.st 4)))] (cat (ds 4) (cat [.one (.ref 0)] (cat (ds 21) (cat [.one (.val (.int .i64)), .one (.val (.int .i64))] (ds 54))))), [.arr (.st 0)], false⟩, fun k x => linpoly_Space_Coeffs.l5 k x.1.1 x.1.2.1 x.1.2.2.1 x.2.1⟩,
  ⟨true, 9, ⟨cat [.one (.val (.ptr (.st 4)))] (cat (ds 5) (cat [.one (.val (.int .i64)), .one (.ref 0)] (cat (ds 19) (cat [.one (.val (.int .i64)), .one (.val (.int .i64))] (cat (ds 6) (cat [.one (.ref 1), .one (.val (.int .i64)), .one (.val (.int .i64))] (ds 45))))))), [.arr (.st 0), .arr (.st 0)], false⟩, fun k x => linpoly_Space_Coeffs.l9 k x.1.1 x.1.2.1 x.1.2.2.1 x.1.2.2.2.1 x.1.2.2.2.2.1 x.1.2.2.2.2.2.1 x.2.1 x.2.2.1⟩]
theorem linpoly_Space_Coeffs.ok (k : Nat) : Okf (XR E) Try.prog 51 (linpoly_Space_Coeffs.sig k) := ⟨fn_ok (C := fun k => tab.ctx fun f => lk f (linpoly_Space_Coeffs.calls k)) (fun k => tie _) k (fun j hj => calls_ok (kc (tower_One.ok j) (kc (tower_Square.ok j) (kc (tower_Add.ok j) (kc (tower_Mul.ok j) (kn)))))) 400 Try.func51 (body := linpoly_Space_Coeffs.body) (res := [.tmp 4]) rfl (by kernel_rfl) linpoly_Space_Coeffs.cuts (kc ⟨by kernel_rfl, rfl, fun _ => rfl, fun _ _ => by kernel_rfl⟩ (kc ⟨by kernel_rfl, rfl, fun _ => rfl, fun _ _ => by kernel_rfl⟩ (kn))) (fun x => by kernel_rfl), _, Try.func51, by kernel_rfl, by kernel_rfl⟩
/-! ### steeple/steeplelaw05.LinpolyCoeffs: function 11 -/
def steeplelaw05_LinpolyCoeffs.j10 : Nat → List S25 → Option Bool
  | 0, _ => none
  | k + 1, x0 => (steeplelaw05_awake.f k).bind fun r11 => if r11 = true then some (decide ((x0.length : Int) = 0)) else some false
def steeplelaw05_LinpolyCoeffs.f (k : Nat) (a0 : S58) (a1 : Int) (a2 : S80) : Option Bool := if (a2.f0.length : Int) > 12 then ((steeplelaw05_awake.f k).bind fun r0 => some r0) else (linpoly_Eval.f k a0.f0 a2.f0 a2.f1).bind fun r1 => (steeplelaw01_Ref.f k a2.f0).bind fun r2 => (steepleref05_Eval.f k a0.f0 r2 (⟨a2.f1.f0, a2.f1.f1⟩ : S30)).bind fun r3 => if r1.f0 = r3.f0 ∧ r1.f1 = r3.f1 then ((steeplelaw05_Space_Made.f k a0).bind fun r4 => (match r4 with | none => (steeplelaw05_awake.f k).bind fun r5 => some r5 | some _ => (linpoly_Space_Coeffs.f k r4 a1).bind fun r6 => if a1 < 0 then steeplelaw05_LinpolyCoeffs.j10 k r6 else if a1 > (a0.f1.length : Int) then steeplelaw05_LinpolyCoeffs.j10 k r6 else (steeplelaw05_awake.f k).bind fun r7 => if r7 = true then (if (r6.length : Int) = wrap64 (a1 + 1) then ((linpoly_Eval.f k a0.f0 r6 a2.f1).bind fun r8 => (linpoly_Space_Value.f k r4 a1 a2.f1).bind fun r9 => if r8.f0 = r9.f0 ∧ r8.f1 = r9.f1 then (if 0 ≤ a1 then (if a1 < (r6.length : Int) then ((tower_One.f k).bind fun r10 => some (decide ((rd25 r6 a1).f0 = r10.f0 ∧ (rd25 r6 a1).f1 = r10.f1))) else none) else none) else some false) else some false) else some false)) else some false
def steeplelaw05_LinpolyCoeffs.sig (k : Nat) : Sig E.toTys := ⟨[.st 3, .int .i64, .st 5], [(false, .bool)], none, fun x => f k x.1 x.2.1 x.2.2.1⟩
noncomputable def steeplelaw05_LinpolyCoeffs.body : Code := Try.f11.body.getD .skip
def steeplelaw05_LinpolyCoeffs.calls (k : Nat) : List (Nat × Sig E.toTys) := [(34, steeplelaw05_awake.sig k), (49, linpoly_Eval.sig k), (15, steeplelaw01_Ref.sig k), (50, steepleref05_Eval.sig k), (33, steeplelaw05_Space_Made.sig k), (51, linpoly_Space_Coeffs.sig k), (35, linpoly_Space_Value.sig k), (40, tower_One.sig k)]
def steeplelaw05_LinpolyCoeffs.cuts : List (Cut E (RT E.toTys [(false, .bool)])) := [⟨false, 10, ⟨cat (ds 8) (cat [.one (.ref 0)] (ds 74)), [.arr (.st 0)], false⟩, fun k x => steeplelaw05_LinpolyCoeffs.j10 k x.2.1⟩]
theorem steeplelaw05_LinpolyCoeffs.ok (k : Nat) : Okf (XR E) Try.prog 11 (steeplelaw05_LinpolyCoeffs.sig k) := ⟨fn_ok (C := fun k => tab.ctx fun f => lk f (steeplelaw05_LinpolyCoeffs.calls k)) (fun k => tie _) k (fun j hj => calls_ok (kc (steeplelaw05_awake.ok j) (kc (linpoly_Eval.ok j) (kc (steeplelaw01_Ref.ok j) (kc (steepleref05_Eval.ok j) (kc (steeplelaw05_Space_Made.ok j) (kc (linpoly_Space_Coeffs.ok j) (kc (linpoly_Space_Value.ok j) (kc (tower_One.ok j) (kn)))))))))) 400 Try.func11 (body := steeplelaw05_LinpolyCoeffs.body) (res := [.tmp 6]) rfl (by kernel_rfl) steeplelaw05_LinpolyCoeffs.cuts (kc ⟨by kernel_rfl, rfl, fun _ => rfl, fun _ _ => by kernel_rfl⟩ (kn)) (fun x => by kernel_rfl), _, Try.func11, by kernel_rfl, by kernel_rfl⟩
/-! ### steeple/steeplelaw05.LinpolyNil: function 12 -/
def steeplelaw05_LinpolyNil.f (k : Nat) (a0 : Int) (a1 : S25) : Option Bool := (steeplelaw05_awake.f k).bind fun r0 => if r0 = true then ((linpoly_Space_Level.f k none).bind fun r1 => (linpoly_Space_Dim.f k none).bind fun r2 => (linpoly_Space_Points.f k none a0 a1).bind fun r3 => (linpoly_Space_Coeffs.f k none a0).bind fun r4 => if wrap64 ((wrap64 ((wrap64 (r1 + r2)) + (r3.length : Int))) + (r4.length : Int)) = 0 then ((linpoly_Space_Point.f k none a0).bind fun r5 => if r5.f0 = 0 ∧ r5.f1 = 0 then ((linpoly_Space_Value.f k none a0 a1).bind fun r6 => if r6.f0 = 0 ∧ r6.f1 = 0 then ((linpoly_Space_Norm.f k none a0 a1).bind fun r7 => some (decide (r7.f0 = 0 ∧ r7.f1 = 0))) else some false) else some false) else some false) else some false
def steeplelaw05_LinpolyNil.sig (k : Nat) : Sig E.toTys := ⟨[.int .i64, .st 0], [(false, .bool)], none, fun x => f k x.1 x.2.1⟩
noncomputable def steeplelaw05_LinpolyNil.body : Code := Try.f12.body.getD .skip
def steeplelaw05_LinpolyNil.calls (k : Nat) : List (Nat × Sig E.toTys) := [(34, steeplelaw05_awake.sig k), (44, linpoly_Space_Level.sig k), (45, linpoly_Space_Dim.sig k), (41, linpoly_Space_Points.sig k), (51, linpoly_Space_Coeffs.sig k), (46, linpoly_Space_Point.sig k), (35, linpoly_Space_Value.sig k), (36, linpoly_Space_Norm.sig k)]
def steeplelaw05_LinpolyNil.cuts : List (Cut E (RT E.toTys [(false, .bool)])) := []
theorem steeplelaw05_LinpolyNil.ok (k : Nat) : Okf (XR E) Try.prog 12 (steeplelaw05_LinpolyNil.sig k) := ⟨fn_ok (C := fun k => tab.ctx fun f => lk f (steeplelaw05_LinpolyNil.calls k)) (fun k => tie _) k (fun j hj => calls_ok (kc (steeplelaw05_awake.ok j) (kc (linpoly_Space_Level.ok j) (kc (linpoly_Space_Dim.ok j) (kc (linpoly_Space_Points.ok j) (kc (linpoly_Space_Coeffs.ok j) (kc (linpoly_Space_Point.ok j) (kc (linpoly_Space_Value.ok j) (kc (linpoly_Space_Norm.ok j) (kn)))))))))) 400 Try.func12 (body := steeplelaw05_LinpolyNil.body) (res := [.tmp 4]) rfl (by kernel_rfl) steeplelaw05_LinpolyNil.cuts (kn) (fun x => by kernel_rfl), _, Try.func12, by kernel_rfl, by kernel_rfl⟩
end Go.Proofs.Ytohlooljopjmjaa.B

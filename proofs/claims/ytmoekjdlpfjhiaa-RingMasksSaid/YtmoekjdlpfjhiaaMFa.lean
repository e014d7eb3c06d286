/- Own text: merged by pack2.py. -/
import Derived.Test.YtmoekjdlpfjhiaaProg
import Derived.Test.YtmoekjdlpfjhiaaMBa
import Derived.Test.YtmoekjdlpfjhiaaMBb
import Derived.Test.YtmoekjdlpfjhiaaMBc
set_option linter.unusedSimpArgs false
set_option linter.unusedVariables false
namespace Go.Proofs.Ytmoekjdlpfjhiaa.B
open Go.Proofs.Ytmoekjdlpfjhiaa.V.B Go.RowKit
set_option linter.unusedVariables false
structure S23 where
  f0 : Int
structure S34 where
  f0 : Int
  f1 : Int
structure S36 where
  f0 : Int
  f1 : Int
  f2 : Int
  f3 : S34
structure S71 where
  f0 : Int
  f1 : Int
structure S92 where
  f0 : Int
  f1 : Int
  f2 : Int
  f3 : S71
structure S177 where
  f0 : Int
  f1 : List S34
  f2 : List S34
  f3 : List S34
structure S143 where
  f0 : Option S177
  f1 : Int
structure S61 where
  f0 : List Bool
  f1 : List S34
  f2 : List S34
def Es : Nat → Type
  | 0 => S23
  | 1 => S34
  | 2 => S36
  | 3 => S71
  | 4 => S92
  | 5 => S177
  | 6 => S143
  | 7 => S61
  | _ + 8 => Unit
def Efs : Nat → List Ty
  | 0 => [.int .i64]
  | 1 => [.int .u64, .int .u64]
  | 2 => [.int .i64, .int .i64, .int .i64, .int .u64, .int .u64]
  | 3 => [.int .u64, .int .u64]
  | 4 => [.int .i64, .int .i64, .int .i64, .int .u64, .int .u64]
  | 5 => [.int .i64, .slice (.st 1), .slice (.st 1), .slice (.st 1)]
  | 6 => [.ptr (.st 5), .int .i64]
  | 7 => [.slice .bool, .slice (.st 1), .slice (.st 1)]
  | _ + 8 => []
def z23 : S23 := ⟨0⟩
def z34 : S34 := ⟨0, 0⟩
def z36 : S36 := ⟨0, 0, 0, z34⟩
def z71 : S71 := ⟨0, 0⟩
def z92 : S92 := ⟨0, 0, 0, z71⟩
def z177 : S177 := ⟨0, [], [], []⟩
def z143 : S143 := ⟨none, 0⟩
def z61 : S61 := ⟨[], [], []⟩
def E : Env where
  S := Es
  fs := Efs
  z := fun n => match n with | 0 => z23 | 1 => z34 | 2 => z36 | 3 => z71 | 4 => z92 | 5 => z177 | 6 => z143 | 7 => z61 | _ + 8 => ()
  to := fun n => match n with | 0 => fun (x : S23) => (x.f0, ()) | 1 => fun (x : S34) => (x.f0, x.f1, ()) | 2 => fun (x : S36) => (x.f0, x.f1, x.f2, x.f3.f0, x.f3.f1, ()) | 3 => fun (x : S71) => (x.f0, x.f1, ()) | 4 => fun (x : S92) => (x.f0, x.f1, x.f2, x.f3.f0, x.f3.f1, ()) | 5 => fun (x : S177) => (x.f0, x.f1, x.f2, x.f3, ()) | 6 => fun (x : S143) => (x.f0, x.f1, ()) | 7 => fun (x : S61) => (x.f0, x.f1, x.f2, ()) | _ + 8 => fun _ => ()
  of := fun n => match n with | 0 => fun x => (⟨x.1⟩ : S23) | 1 => fun x => (⟨x.1, x.2.1⟩ : S34) | 2 => fun x => (⟨x.1, x.2.1, x.2.2.1, (⟨x.2.2.2.1, x.2.2.2.2.1⟩ : S34)⟩ : S36) | 3 => fun x => (⟨x.1, x.2.1⟩ : S71) | 4 => fun x => (⟨x.1, x.2.1, x.2.2.1, (⟨x.2.2.2.1, x.2.2.2.2.1⟩ : S71)⟩ : S92) | 5 => fun x => (⟨x.1, x.2.1, x.2.2.1, x.2.2.2.1⟩ : S177) | 6 => fun x => (⟨x.1, x.2.1⟩ : S143) | 7 => fun x => (⟨x.1, x.2.1, x.2.2.1⟩ : S61) | _ + 8 => fun _ => ()
  of_to := fun n => match n with | 0 => fun _ => rfl | 1 => fun _ => rfl | 2 => fun _ => rfl | 3 => fun _ => rfl | 4 => fun _ => rfl | 5 => fun _ => rfl | 6 => fun _ => rfl | 7 => fun _ => rfl | _ + 8 => fun _ => rfl
  to_of := fun n => match n with | 0 => fun _ => rfl | 1 => fun _ => rfl | 2 => fun _ => rfl | 3 => fun _ => rfl | 4 => fun _ => rfl | 5 => fun _ => rfl | 6 => fun _ => rfl | 7 => fun _ => rfl | _ + 8 => fun _ => rfl
theorem zl_ok : ∀ n, E.to n (E.z n) = zl E (E.fs n) := fun n => match n with | 0 => rfl | 1 => rfl | 2 => rfl | 3 => rfl | 4 => rfl | 5 => rfl | 6 => rfl | 7 => rfl | _ + 8 => rfl
def rd23 (xs : List S23) (i : Int) : S23 := xs.getD i.toNat z23
def rd34 (xs : List S34) (i : Int) : S34 := xs.getD i.toNat z34
def rd36 (xs : List S36) (i : Int) : S36 := xs.getD i.toNat z36
def rd71 (xs : List S71) (i : Int) : S71 := xs.getD i.toNat z71
def rd92 (xs : List S92) (i : Int) : S92 := xs.getD i.toNat z92
def rd177 (xs : List S177) (i : Int) : S177 := xs.getD i.toNat z177
def rd143 (xs : List S143) (i : Int) : S143 := xs.getD i.toNat z143
def rd61 (xs : List S61) (i : Int) : S61 := xs.getD i.toNat z61
def rdI (xs : List Int) (i : Int) : Int := xs.getD i.toNat 0
def rdB (xs : List Bool) (i : Int) : Bool := xs.getD i.toNat false
def rdL {α : Type} (xs : List (List α)) (i : Int) : List α := xs.getD i.toNat []
def by256_793 : ByteArray := ⟨#[0, 1, 2, 2, 3, 3, 3, 3, 4, 4, 4, 4, 4, 4, 4, 4, 5, 5, 5, 5, 5, 5, 5, 5, 5, 5, 5, 5, 5, 5, 5, 5, 6, 6, 6, 6, 6, 6, 6, 6, 6, 6, 6, 6, 6, 6, 6, 6, 6, 6, 6, 6, 6, 6, 6, 6, 6, 6, 6, 6, 6, 6, 6, 6, 7, 7, 7, 7, 7, 7, 7, 7, 7, 7, 7, 7, 7, 7, 7, 7, 7, 7, 7, 7, 7, 7, 7, 7, 7, 7, 7, 7, 7, 7, 7, 7, 7, 7, 7, 7, 7, 7, 7, 7, 7, 7, 7, 7, 7, 7, 7, 7, 7, 7, 7, 7, 7, 7, 7, 7, 7, 7, 7, 7, 7, 7, 7, 7, 8, 8, 8, 8, 8, 8, 8, 8, 8, 8, 8, 8, 8, 8, 8, 8, 8, 8, 8, 8, 8, 8, 8, 8, 8, 8, 8, 8, 8, 8, 8, 8, 8, 8, 8, 8, 8, 8, 8, 8, 8, 8, 8, 8, 8, 8, 8, 8, 8, 8, 8, 8, 8, 8, 8, 8, 8, 8, 8, 8, 8, 8, 8, 8, 8, 8, 8, 8, 8, 8, 8, 8, 8, 8, 8, 8, 8, 8, 8, 8, 8, 8, 8, 8, 8, 8, 8, 8, 8, 8, 8, 8, 8, 8, 8, 8, 8, 8, 8, 8, 8, 8, 8, 8, 8, 8, 8, 8, 8, 8, 8, 8, 8, 8, 8, 8, 8, 8, 8, 8, 8, 8, 8, 8, 8, 8, 8, 8]⟩
def tab : Tab := ⟨[(3, .int .i64), (4, .bool), (5, .int .u8), (23, .st 0), (27, .slice (.st 2)), (28, .int .i64), (32, .int .u64), (34, .st 1), (36, .st 2), (41, .slice (.st 1)), (42, .slice (.st 4)), (53, .slice (.slice (.st 1))), (55, .ptr (.st 6)), (59, .slice .bool), (61, .st 7), (62, .slice (.st 3)), (71, .st 3), (85, .slice (.int .i64)), (92, .st 4), (110, .slice (.st 1)), (133, .int .u64), (141, .ptr (.st 5)), (143, .st 6), (155, .slice (.slice (.st 1))), (160, .slice (.int .u64)), (177, .st 5), (183, .int .i64)], [(23, 0, 0, 3), (34, 0, 0, 32), (34, 1, 1, 32), (36, 0, 0, 3), (36, 1, 1, 3), (36, 2, 2, 3), (36, 3, 3, 34), (61, 1, 1, 41), (61, 2, 2, 41), (71, 0, 0, 32), (71, 1, 1, 32), (92, 0, 0, 3), (92, 1, 1, 3), (92, 2, 2, 3), (92, 3, 3, 71), (143, 0, 0, 141), (143, 1, 1, 3), (177, 0, 0, 3), (177, 1, 1, 41), (177, 2, 2, 41), (177, 3, 3, 41)], [(27, 40), (41, 16), (42, 40), (53, 24), (59, 1), (62, 16), (85, 8), (110, 16), (155, 24), (160, 8)], [(34, 2), (71, 2)], [9]⟩
theorem tab_ok : tab.chk E Try.prog = true := by kernel_rfl
theorem tie (calls : Nat → Option (Sig E.toTys)) : Tie (XR E) Try.prog (tab.ctx calls) := tie_of zl_ok tab_ok calls
end Go.Proofs.Ytmoekjdlpfjhiaa.B
namespace Go.Proofs.Ytmoekjdlpfjhiaa.B
open Go.Proofs.Ytmoekjdlpfjhiaa.V.B Go.RowKit
set_option linter.unusedVariables false
/-! ### steeple/steeplelaw16.ExprOdd: function 3 -/
def steeplelaw16_ExprOdd.f (k : Nat) (a0 : Int) (a1 : Int) : Option Bool := none
def steeplelaw16_ExprOdd.sig (k : Nat) : Sig E.toTys := ⟨[.int .i64, .int .i64], [(false, .bool)], none, fun x => f k x.1 x.2.1⟩
noncomputable def steeplelaw16_ExprOdd.body : Code := Try.f3.body.getD .skip
def steeplelaw16_ExprOdd.calls (k : Nat) : List (Nat × Sig E.toTys) := []
def steeplelaw16_ExprOdd.cuts : List (Cut E (RT E.toTys [(false, .bool)])) := []
theorem steeplelaw16_ExprOdd.ok (k : Nat) : Okf (XR E) Try.prog 3 (steeplelaw16_ExprOdd.sig k) := ⟨fn_ok (C := fun k => tab.ctx fun f => lk f (steeplelaw16_ExprOdd.calls k)) (fun k => tie _) k (fun j hj => calls_ok (kn)) 400 Try.func3 (body := steeplelaw16_ExprOdd.body) (res := [.tmp 4]) rfl (by kernel_rfl) steeplelaw16_ExprOdd.cuts (kn) (fun x => by kernel_rfl), _, Try.func3, by kernel_rfl, by kernel_rfl⟩
/-! ### steeple/steeplelaw16.example: function 43 -/
def steeplelaw16_example.f (k : Nat) : Option (List S36) := some [(⟨2, 0, 0, (⟨0, 0⟩ : S34)⟩ : S36), (⟨2, 1, 0, (⟨0, 0⟩ : S34)⟩ : S36), (⟨4, 0, 1, (⟨0, 0⟩ : S34)⟩ : S36), (⟨1, 0, 0, (⟨0, 1⟩ : S34)⟩ : S36), (⟨3, 2, 3, (⟨0, 0⟩ : S34)⟩ : S36)]
def steeplelaw16_example.sig (k : Nat) : Sig E.toTys := ⟨[], [(true, .slice (.st 2))], none, fun x => f k⟩
noncomputable def steeplelaw16_example.body : Code := Try.f43.body.getD .skip
def steeplelaw16_example.calls (k : Nat) : List (Nat × Sig E.toTys) := []
def steeplelaw16_example.cuts : List (Cut E (RT E.toTys [(true, .slice (.st 2))])) := []
theorem steeplelaw16_example.ok (k : Nat) : Okf (XR E) Try.prog 43 (steeplelaw16_example.sig k) := ⟨fn_ok (C := fun k => tab.ctx fun f => lk f (steeplelaw16_example.calls k)) (fun k => tie _) k (fun j hj => calls_ok (kn)) 400 Try.func43 (body := steeplelaw16_example.body) (res := [.tmp 0]) rfl (by kernel_rfl) steeplelaw16_example.cuts (kn) (fun x => by kernel_rfl), _, Try.func43, by kernel_rfl, by kernel_rfl⟩
/-! ### steeple/octet.Wide: function 77 -/
def octet_Wide.f (k : Nat) (a0 : Int) : Option Int := if a0 < 0 then some 0 else if a0 > 7 then some 0 else if a0 ≤ 3 then some 1 else if 0 ≤ wrap64 (a0 - 3) then some (shl .i64 1 (wrap64 (a0 - 3))) else none
def octet_Wide.sig (k : Nat) : Sig E.toTys := ⟨[.int .i64], [(false, .int .i64)], none, fun x => f k x.1⟩
noncomputable def octet_Wide.body : Code := Try.f77.body.getD .skip
def octet_Wide.calls (k : Nat) : List (Nat × Sig E.toTys) := []
def octet_Wide.cuts : List (Cut E (RT E.toTys [(false, .int .i64)])) := []
theorem octet_Wide.ok (k : Nat) : Okf (XR E) Try.prog 77 (octet_Wide.sig k) := ⟨fn_ok (C := fun k => tab.ctx fun f => lk f (octet_Wide.calls k)) (fun k => tie _) k (fun j hj => calls_ok (kn)) 400 Try.func77 (body := octet_Wide.body) (res := [.tmp 2]) rfl (by kernel_rfl) octet_Wide.cuts (kn) (fun x => by kernel_rfl), _, Try.func77, by kernel_rfl, by kernel_rfl⟩
/-! ### steeple/octet.Of: function 48 -/
def octet_Of.f (k : Nat) (a0 : Int) (a1 : S34) : Option Bool := if a0 < 0 then some false else if a0 > 7 then some false else if a0 = 7 then some true else if a0 = 6 then some (decide (a1.f0 = 0)) else if a1.f0 = 0 then (if 0 ≤ a0 then (if 0 ≤ shl .u64 1 a0 then some (decide (shr .u64 a1.f1 (shl .u64 1 a0) = 0)) else none) else none) else some false
def octet_Of.sig (k : Nat) : Sig E.toTys := ⟨[.int .i64, .st 1], [(false, .bool)], none, fun x => f k x.1 x.2.1⟩
noncomputable def octet_Of.body : Code := Try.f48.body.getD .skip
def octet_Of.calls (k : Nat) : List (Nat × Sig E.toTys) := []
def octet_Of.cuts : List (Cut E (RT E.toTys [(false, .bool)])) := []
theorem octet_Of.ok (k : Nat) : Okf (XR E) Try.prog 48 (octet_Of.sig k) := ⟨fn_ok (C := fun k => tab.ctx fun f => lk f (octet_Of.calls k)) (fun k => tie _) k (fun j hj => calls_ok (kn)) 400 Try.func48 (body := octet_Of.body) (res := [.tmp 4]) rfl (by kernel_rfl) octet_Of.cuts (kn) (fun x => by kernel_rfl), _, Try.func48, by kernel_rfl, by kernel_rfl⟩
/-! ### steeple/expr.ahead: function 113 -/
def expr_ahead.f (k : Nat) (a0 : S36) (a1 : Int) : Option Bool := if a0.f1 ≥ 0 then (if a0.f1 < a1 then (if a0.f2 ≥ 0 then some (decide (a0.f2 < a1)) else some false) else some false) else some false
def expr_ahead.sig (k : Nat) : Sig E.toTys := ⟨[.st 2, .int .i64], [(false, .bool)], none, fun x => f k x.1 x.2.1⟩
noncomputable def expr_ahead.body : Code := Try.f113.body.getD .skip
def expr_ahead.calls (k : Nat) : List (Nat × Sig E.toTys) := []
def expr_ahead.cuts : List (Cut E (RT E.toTys [(false, .bool)])) := []
theorem expr_ahead.ok (k : Nat) : Okf (XR E) Try.prog 113 (expr_ahead.sig k) := ⟨fn_ok (C := fun k => tab.ctx fun f => lk f (expr_ahead.calls k)) (fun k => tie _) k (fun j hj => calls_ok (kn)) 400 Try.func113 (body := expr_ahead.body) (res := [.tmp 4]) rfl (by kernel_rfl) expr_ahead.cuts (kn) (fun x => by kernel_rfl), _, Try.func113, by kernel_rfl, by kernel_rfl⟩
/-! ### steeple/expr.step: function 78 -/
mutual
def expr_step.j6 : Nat → Int → List Int → Int → Int → Int → Int → Int → Int → Int → Option (Int × Int)
  | 0, _, _, _, _, _, _, _, _, _ => none
  | k + 1, x0, x1, x2, x3, x4, x5, x6, x7, x8 => if x2 = 2 then (if x4 = 0 then (if x5 = x7 ∧ x6 = x8 then (if x3 < 0 then expr_step.j8 k else if x3 ≥ x0 then expr_step.j8 k else some (1, 0)) else expr_step.j10 k x1 x2 x3 x4 x5 x6 x7 x8) else expr_step.j10 k x1 x2 x3 x4 x5 x6 x7 x8) else expr_step.j10 k x1 x2 x3 x4 x5 x6 x7 x8
def expr_step.j8 : Nat → Option (Int × Int)
  | 0 => none
  | k + 1 => some (0, 4)
def expr_step.j10 : Nat → List Int → Int → Int → Int → Int → Int → Int → Int → Option (Int × Int)
  | 0, _, _, _, _, _, _, _, _ => none
  | k + 1, x0, x1, x2, x3, x4, x5, x6, x7 => if x1 = 3 then (if x4 = x6 ∧ x5 = x7 then ((expr_ahead.f k (⟨x1, x2, x3, (⟨x4, x5⟩ : S34)⟩ : S36) (x0.length : Int)).bind fun r1 => if r1 = true then (if 0 ≤ x2 then (if x2 < (x0.length : Int) then (if 0 ≤ x3 then (if x3 < (x0.length : Int) then some (if rdI x0 x3 > rdI x0 x2 then (rdI x0 x3) else (rdI x0 x2), 0) else none) else none) else none) else none) else expr_step.j12 k x0 x1 x2 x3 x4 x5 x6 x7) else expr_step.j12 k x0 x1 x2 x3 x4 x5 x6 x7) else expr_step.j12 k x0 x1 x2 x3 x4 x5 x6 x7
def expr_step.j12 : Nat → List Int → Int → Int → Int → Int → Int → Int → Int → Option (Int × Int)
  | 0, _, _, _, _, _, _, _, _ => none
  | k + 1, x0, x1, x2, x3, x4, x5, x6, x7 => if x1 = 4 then (if x4 = x6 ∧ x5 = x7 then ((expr_ahead.f k (⟨x1, x2, x3, (⟨x4, x5⟩ : S34)⟩ : S36) (x0.length : Int)).bind fun r2 => if r2 = true then (if 0 ≤ x2 then (if x2 < (x0.length : Int) then (if 0 ≤ x3 then (if x3 < (x0.length : Int) then some (wrap64 ((rdI x0 x2) + (rdI x0 x3)), 0) else none) else none) else none) else none) else expr_step.j14 k) else expr_step.j14 k) else expr_step.j14 k
def expr_step.j14 : Nat → Option (Int × Int)
  | 0 => none
  | k + 1 => some (0, 3)
end
def expr_step.f (k : Nat) (a0 : Int) (a1 : Int) (a2 : S36) (a3 : List Int) : Option (Int × Int) := if a2.f0 = 1 then (if a2.f1 = 0 then (if a2.f2 = 0 then ((octet_Of.f k a0 a2.f3).bind fun r0 => if (!r0) = true then some (0, 5) else some (0, 0)) else expr_step.j6 k a1 a3 a2.f0 a2.f1 a2.f2 a2.f3.f0 a2.f3.f1 0 0) else expr_step.j6 k a1 a3 a2.f0 a2.f1 a2.f2 a2.f3.f0 a2.f3.f1 0 0) else expr_step.j6 k a1 a3 a2.f0 a2.f1 a2.f2 a2.f3.f0 a2.f3.f1 0 0
def expr_step.sig (k : Nat) : Sig E.toTys := ⟨[.int .i64, .int .i64, .st 2, .slice (.int .i64)], [(false, .int .i64), (false, .int .i64)], none, fun x => f k x.1 x.2.1 x.2.2.1 x.2.2.2.1⟩
noncomputable def expr_step.body : Code := Try.f78.body.getD .skip
def expr_step.calls (k : Nat) : List (Nat × Sig E.toTys) := [(48, octet_Of.sig k), (113, expr_ahead.sig k)]
def expr_step.cuts : List (Cut E (RT E.toTys [(false, .int .i64), (false, .int .i64)])) := [⟨false, 6, ⟨cat (ds 1) (cat [.one (.val (.int .i64))] (cat (ds 1) (cat [.one (.val (.slice (.int .i64)))] (cat (ds 2) (cat [.one (.ptr 0 0)] (cat (ds 3) (cat [.one (.ptr 1 0)] (ds 98)))))))), [.var [.val (.int .i64), .val (.int .i64), .val (.int .i64), .val (.int .u64), .val (.int .u64)], .var [.val (.int .u64), .val (.int .u64)]], false⟩, fun k x => expr_step.j6 k x.1.1 x.1.2.1 x.2.1.1 x.2.1.2.1 x.2.1.2.2.1 x.2.1.2.2.2.1 x.2.1.2.2.2.2.1 x.2.2.1.1 x.2.2.1.2.1⟩,
  ⟨false, 8, ⟨ds 109, [], false⟩, fun k x => expr_step.j8 k⟩,
  ⟨false, 10, ⟨cat (ds 3) (cat [.one (.val (.slice (.int .i64)))] (cat (ds 2) (cat [.one (.ptr 0 0)] (cat (ds 3) (cat [.one (.ptr 1 0)] (ds 98)))))), [.var [.val (.int .i64), .val (.int .i64), .val (.int .i64), .val (.int .u64), .val (.int .u64)], .var [.val (.int .u64), .val (.int .u64)]], false⟩, fun k x => expr_step.j10 k x.1.1 x.2.1.1 x.2.1.2.1 x.2.1.2.2.1 x.2.1.2.2.2.1 x.2.1.2.2.2.2.1 x.2.2.1.1 x.2.2.1.2.1⟩,
  ⟨false, 12, ⟨cat (ds 3) (cat [.one (.val (.slice (.int .i64)))] (cat (ds 2) (cat [.one (.ptr 0 0)] (cat (ds 3) (cat [.one (.ptr 1 0)] (ds 98)))))), [.var [.val (.int .i64), .val (.int .i64), .val (.int .i64), .val (.int .u64), .val (.int .u64)], .var [.val (.int .u64), .val (.int .u64)]], false⟩, fun k x => expr_step.j12 k x.1.1 x.2.1.1 x.2.1.2.1 x.2.1.2.2.1 x.2.1.2.2.2.1 x.2.1.2.2.2.2.1 x.2.2.1.1 x.2.2.1.2.1⟩,
  ⟨false, 14, ⟨ds 109, [], false⟩, fun k x => expr_step.j14 k⟩]
theorem expr_step.ok (k : Nat) : Okf (XR E) Try.prog 78 (expr_step.sig k) := ⟨fn_ok (C := fun k => tab.ctx fun f => lk f (expr_step.calls k)) (fun k => tie _) k (fun j hj => calls_ok (kc (octet_Of.ok j) (kc (expr_ahead.ok j) (kn)))) 400 Try.func78 (body := expr_step.body) (res := [.tmp 8, .tmp 9]) rfl (by kernel_rfl) expr_step.cuts (kc ⟨by kernel_rfl, rfl, fun _ => rfl, fun _ _ => by kernel_rfl⟩ (kc ⟨by kernel_rfl, rfl, fun _ => rfl, fun _ _ => by kernel_rfl⟩ (kc ⟨by kernel_rfl, rfl, fun _ => rfl, fun _ _ => by kernel_rfl⟩ (kc ⟨by kernel_rfl, rfl, fun _ => rfl, fun _ _ => by kernel_rfl⟩ (kc ⟨by kernel_rfl, rfl, fun _ => rfl, fun _ _ => by kernel_rfl⟩ (kn)))))) (fun x => by kernel_rfl), _, Try.func78, by kernel_rfl, by kernel_rfl⟩
/-! ### steeple/expr.degrees: function 44 -/
mutual
def expr_degrees.l9 : Nat → Int → Int → List S36 → Int → Int → List Int → Option ((List Int) × Int)
  | 0, _, _, _, _, _, _ => none
  | k + 1, x0, x1, x2, x3, x4, x5 => if x4 < x3 then (if 0 ≤ x4 then (if x4 < (x2.length : Int) then ((expr_step.f k x0 x1 (rd36 x2 x4) x5).bind fun r1 => if r1.2 = 0 then (if r1.1 > 8 then expr_degrees.j14 k x0 x1 r1.1 7 x2 x3 x4 x5 else expr_degrees.j14 k x0 x1 r1.1 r1.2 x2 x3 x4 x5) else expr_degrees.j14 k x0 x1 r1.1 r1.2 x2 x3 x4 x5) else none) else none) else some (x5, 0)
def expr_degrees.j14 : Nat → Int → Int → Int → Int → List S36 → Int → Int → List Int → Option ((List Int) × Int)
  | 0, _, _, _, _, _, _, _, _ => none
  | k + 1, x0, x1, x2, x3, x4, x5, x6, x7 => if x3 = 0 then (if x7.length + [x2].length ≤ 140737488355328 / 8 then expr_degrees.l9 k x0 x1 x4 x5 (wrap64 (x6 + 1)) (x7 ++ [x2]) else none) else some ([], x3)
end
def expr_degrees.f (k : Nat) (a0 : Int) (a1 : Int) (a2 : List S36) : Option ((List Int) × Int) := (octet_Wide.f k a0).bind fun r0 => if r0 = 0 then some ([], 1) else if a1 < 0 then some ([], 1) else if (a2.length : Int) = 0 then some ([], 3) else if (a2.length : Int) > 200 then some ([], 2) else expr_degrees.l9 k a0 a1 a2 (a2.length : Int) 0 []
def expr_degrees.sig (k : Nat) : Sig E.toTys := ⟨[.int .i64, .int .i64, .slice (.st 2)], [(true, .slice (.int .i64)), (false, .int .i64)], none, fun x => f k x.1 x.2.1 x.2.2.1⟩
noncomputable def expr_degrees.body : Code := Try.f44.body.getD .skip
def expr_degrees.calls (k : Nat) : List (Nat × Sig E.toTys) := [(77, octet_Wide.sig k), (78, expr_step.sig k)]
def expr_degrees.cuts : List (Cut E (RT E.toTys [(true, .slice (.int .i64)), (false, .int .i64)])) := [⟨true, 9, ⟨cat [.one (.val (.int .i64)), .one (.val (.int .i64))] (cat (ds 6) (cat [.one (.ref 0)] (cat (ds 20) (cat [.one (.val (.slice (.st 2))), .one (.val (.int .i64)), .one (.val (.int .i64))] (ds 26))))), [.arr (.int .i64)], false⟩, fun k x => expr_degrees.l9 k x.1.1 x.1.2.1 x.1.2.2.1 x.1.2.2.2.1 x.1.2.2.2.2.1 x.2.1⟩,
  ⟨false, 14, ⟨cat [.one (.val (.int .i64)), .one (.val (.int .i64))] (cat (ds 6) (cat [.one (.ref 0)] (cat (ds 2) (cat [.one (.val (.int .i64)), .one (.val (.int .i64))] (cat (ds 16) (cat [.one (.val (.slice (.st 2))), .one (.val (.int .i64)), .one (.val (.int .i64))] (ds 26))))))), [.arr (.int .i64)], false⟩, fun k x => expr_degrees.j14 k x.1.1 x.1.2.1 x.1.2.2.1 x.1.2.2.2.1 x.1.2.2.2.2.1 x.1.2.2.2.2.2.1 x.1.2.2.2.2.2.2.1 x.2.1⟩]
theorem expr_degrees.ok (k : Nat) : Okf (XR E) Try.prog 44 (expr_degrees.sig k) := ⟨fn_ok (C := fun k => tab.ctx fun f => lk f (expr_degrees.calls k)) (fun k => tie _) k (fun j hj => calls_ok (kc (octet_Wide.ok j) (kc (expr_step.ok j) (kn)))) 400 Try.func44 (body := expr_degrees.body) (res := [.tmp 6, .tmp 7]) rfl (by kernel_rfl) expr_degrees.cuts (kc ⟨by kernel_rfl, rfl, fun _ => rfl, fun _ _ => by kernel_rfl⟩ (kc ⟨by kernel_rfl, rfl, fun _ => rfl, fun _ _ => by kernel_rfl⟩ (kn))) (fun x => by kernel_rfl), _, Try.func44, by kernel_rfl, by kernel_rfl⟩
/-! ### steeple/expr.Check: function 45 -/
def expr_Check.f (k : Nat) (a0 : Int) (a1 : Int) (a2 : List S36) : Option Int := (expr_degrees.f k a0 a1 a2).bind fun r0 => some r0.2
def expr_Check.sig (k : Nat) : Sig E.toTys := ⟨[.int .i64, .int .i64, .slice (.st 2)], [(false, .int .i64)], none, fun x => f k x.1 x.2.1 x.2.2.1⟩
noncomputable def expr_Check.body : Code := Try.f45.body.getD .skip
def expr_Check.calls (k : Nat) : List (Nat × Sig E.toTys) := [(44, expr_degrees.sig k)]
def expr_Check.cuts : List (Cut E (RT E.toTys [(false, .int .i64)])) := []
theorem expr_Check.ok (k : Nat) : Okf (XR E) Try.prog 45 (expr_Check.sig k) := ⟨fn_ok (C := fun k => tab.ctx fun f => lk f (expr_Check.calls k)) (fun k => tie _) k (fun j hj => calls_ok (kc (expr_degrees.ok j) (kn))) 400 Try.func45 (body := expr_Check.body) (res := [.tmp 6]) rfl (by kernel_rfl) expr_Check.cuts (kn) (fun x => by kernel_rfl), _, Try.func45, by kernel_rfl, by kernel_rfl⟩
/-! ### steeple/tower.Add: function 49 -/
def tower_Add.f (k : Nat) (a0 : S34) (a1 : S34) : Option S34 := some (⟨bits .xor .u64 a0.f0 a1.f0, bits .xor .u64 a0.f1 a1.f1⟩ : S34)
def tower_Add.sig (k : Nat) : Sig E.toTys := ⟨[.st 1, .st 1], [(false, .st 1)], none, fun x => f k x.1 x.2.1⟩
noncomputable def tower_Add.body : Code := Try.f49.body.getD .skip
def tower_Add.calls (k : Nat) : List (Nat × Sig E.toTys) := []
def tower_Add.cuts : List (Cut E (RT E.toTys [(false, .st 1)])) := []
theorem tower_Add.ok (k : Nat) : Okf (XR E) Try.prog 49 (tower_Add.sig k) := ⟨fn_ok (C := fun k => tab.ctx fun f => lk f (tower_Add.calls k)) (fun k => tie _) k (fun j hj => calls_ok (kn)) 400 Try.func49 (body := tower_Add.body) (res := [.cell 4 34]) rfl (by kernel_rfl) tower_Add.cuts (kn) (fun x => by kernel_rfl), _, Try.func49, by kernel_rfl, by kernel_rfl⟩
/-! ### steeple/tower.halves: function 114 -/
def tower_halves.f (k : Nat) (a0 : Int) (a1 : Int) : Option (Int × Int) := if 0 ≤ wrap64 (a0 - 1) then (if 0 ≤ shl .i64 1 (wrap64 (a0 - 1)) then (if 0 ≤ shl .i64 1 (wrap64 (a0 - 1)) then some (shr .u64 a1 (shl .i64 1 (wrap64 (a0 - 1))), bits .and .u64 a1 (IntKind.u64.wrap ((shl .u64 1 (shl .i64 1 (wrap64 (a0 - 1)))) - 1))) else none) else none) else none
def tower_halves.sig (k : Nat) : Sig E.toTys := ⟨[.int .i64, .int .u64], [(false, .int .u64), (false, .int .u64)], none, fun x => f k x.1 x.2.1⟩
noncomputable def tower_halves.body : Code := Try.f114.body.getD .skip
def tower_halves.calls (k : Nat) : List (Nat × Sig E.toTys) := []
def tower_halves.cuts : List (Cut E (RT E.toTys [(false, .int .u64), (false, .int .u64)])) := []
theorem tower_halves.ok (k : Nat) : Okf (XR E) Try.prog 114 (tower_halves.sig k) := ⟨fn_ok (C := fun k => tab.ctx fun f => lk f (tower_halves.calls k)) (fun k => tie _) k (fun j hj => calls_ok (kn)) 400 Try.func114 (body := tower_halves.body) (res := [.tmp 4, .tmp 5]) rfl (by kernel_rfl) tower_halves.cuts (kn) (fun x => by kernel_rfl), _, Try.func114, by kernel_rfl, by kernel_rfl⟩
/-! ### steeple/tower.join: function 115 -/
def tower_join.f (k : Nat) (a0 : Int) (a1 : Int) (a2 : Int) : Option Int := if 0 ≤ wrap64 (a0 - 1) then (if 0 ≤ shl .u64 1 (wrap64 (a0 - 1)) then some (bits .or .u64 (shl .u64 a1 (shl .u64 1 (wrap64 (a0 - 1)))) a2) else none) else none
def tower_join.sig (k : Nat) : Sig E.toTys := ⟨[.int .i64, .int .u64, .int .u64], [(false, .int .u64)], none, fun x => f k x.1 x.2.1 x.2.2.1⟩
noncomputable def tower_join.body : Code := Try.f115.body.getD .skip
def tower_join.calls (k : Nat) : List (Nat × Sig E.toTys) := []
def tower_join.cuts : List (Cut E (RT E.toTys [(false, .int .u64)])) := []
theorem tower_join.ok (k : Nat) : Okf (XR E) Try.prog 115 (tower_join.sig k) := ⟨fn_ok (C := fun k => tab.ctx fun f => lk f (tower_join.calls k)) (fun k => tie _) k (fun j hj => calls_ok (kn)) 400 Try.func115 (body := tower_join.body) (res := [.tmp 6]) rfl (by kernel_rfl) tower_join.cuts (kn) (fun x => by kernel_rfl), _, Try.func115, by kernel_rfl, by kernel_rfl⟩
/-! ### steeple/tower.mulX: function 81 -/
def tower_mulX.f : Nat → Int → Int → Option Int
  | 0, _, _ => none
  | k + 1, a0, a1 => if a0 = 0 then some a1 else (tower_halves.f k a0 a1).bind fun r0 => (tower_mulX.f k (wrap64 (a0 - 1)) r0.1).bind fun r1 => (tower_join.f k a0 (bits .xor .u64 r0.2 r1) r0.1).bind fun r2 => some r2
def tower_mulX.sig (k : Nat) : Sig E.toTys := ⟨[.int .i64, .int .u64], [(false, .int .u64)], none, fun x => f k x.1 x.2.1⟩
noncomputable def tower_mulX.body : Code := Try.f81.body.getD .skip
def tower_mulX.calls (k : Nat) : List (Nat × Sig E.toTys) := [(114, tower_halves.sig k), (81, tower_mulX.sig k), (115, tower_join.sig k)]
def tower_mulX.cuts : List (Cut E (RT E.toTys [(false, .int .u64)])) := []
theorem tower_mulX.oks (k : Nat) : Okf (XR E) Try.prog 81 (tower_mulX.sig k) := by
  induction k using Nat.strongRecOn with
  | ind k ih =>
  cases k with
  | zero => exact ⟨ok0 fun _ => rfl, _, Try.func81, by kernel_rfl, by kernel_rfl⟩
  | succ k => exact ⟨fn_ok (C := fun k => tab.ctx fun f => lk f (tower_mulX.calls k)) (fun k => tie _) k (fun j hj => calls_ok (kc (tower_halves.ok j) (kc (ih j (Nat.lt_succ_of_le hj)) (kc (tower_join.ok j) (kn))))) 400 Try.func81 (body := tower_mulX.body) (res := [.tmp 4]) rfl (by kernel_rfl) tower_mulX.cuts (kn) (fun x => by kernel_rfl), _, Try.func81, by kernel_rfl, by kernel_rfl⟩
theorem tower_mulX.ok (k : Nat) : Okf (XR E) Try.prog 81 (tower_mulX.sig k) := (tower_mulX.oks k)
/-! ### steeple/tower.mul: function 80 -/
mutual
def tower_mul.j2 : Nat → Int → Int → Option Int
  | 0, _, _ => none
  | k + 1, x0, x1 => some (bits .and .u64 (bits .and .u64 x0 x1) 1)
def tower_mul.f : Nat → Int → Int → Int → Option Int
  | 0, _, _, _ => none
  | k + 1, a0, a1, a2 => if a0 = 0 then tower_mul.j2 k a1 a2 else if a1 = 0 then tower_mul.j2 k a1 a2 else if a2 = 0 then tower_mul.j2 k a1 a2 else (tower_halves.f k a0 a1).bind fun r0 => (tower_halves.f k a0 a2).bind fun r1 => (tower_mul.f k (wrap64 (a0 - 1)) r0.1 r1.1).bind fun r2 => (tower_mul.f k (wrap64 (a0 - 1)) r0.2 r1.2).bind fun r3 => (tower_mul.f k (wrap64 (a0 - 1)) (bits .xor .u64 r0.1 r0.2) (bits .xor .u64 r1.1 r1.2)).bind fun r4 => (tower_mulX.f k (wrap64 (a0 - 1)) r2).bind fun r5 => (tower_join.f k a0 (bits .xor .u64 (bits .xor .u64 (bits .xor .u64 r4 r2) r3) r5) (bits .xor .u64 r3 r2)).bind fun r6 => some r6
end
def tower_mul.sig (k : Nat) : Sig E.toTys := ⟨[.int .i64, .int .u64, .int .u64], [(false, .int .u64)], none, fun x => f k x.1 x.2.1 x.2.2.1⟩
noncomputable def tower_mul.body : Code := Try.f80.body.getD .skip
def tower_mul.calls (k : Nat) : List (Nat × Sig E.toTys) := [(114, tower_halves.sig k), (80, tower_mul.sig k), (81, tower_mulX.sig k), (115, tower_join.sig k)]
def tower_mul.cuts : List (Cut E (RT E.toTys [(false, .int .u64)])) := [⟨false, 2, ⟨cat (ds 1) (cat [.one (.val (.int .u64)), .one (.val (.int .u64))] (ds 71)), [], false⟩, fun k x => tower_mul.j2 k x.1.1 x.1.2.1⟩]
theorem tower_mul.oks (k : Nat) : Okf (XR E) Try.prog 80 (tower_mul.sig k) := by
  induction k using Nat.strongRecOn with
  | ind k ih =>
  cases k with
  | zero => exact ⟨ok0 fun _ => rfl, _, Try.func80, by kernel_rfl, by kernel_rfl⟩
  | succ k => exact ⟨fn_ok (C := fun k => tab.ctx fun f => lk f (tower_mul.calls k)) (fun k => tie _) k (fun j hj => calls_ok (kc (tower_halves.ok j) (kc (ih j (Nat.lt_succ_of_le hj)) (kc (tower_mulX.ok j) (kc (tower_join.ok j) (kn)))))) 400 Try.func80 (body := tower_mul.body) (res := [.tmp 6]) rfl (by kernel_rfl) tower_mul.cuts (kc ⟨by kernel_rfl, rfl, fun _ => rfl, fun _ _ => by kernel_rfl⟩ (kn)) (fun x => by kernel_rfl), _, Try.func80, by kernel_rfl, by kernel_rfl⟩
theorem tower_mul.ok (k : Nat) : Okf (XR E) Try.prog 80 (tower_mul.sig k) := (tower_mul.oks k)
/-! ### steeple/tower.Mul: function 50 -/
def tower_Mul.f (k : Nat) (a0 : Int) (a1 : S34) (a2 : S34) : Option S34 := (octet_Of.f k a0 a1).bind fun r0 => if (!r0) = true then some (⟨0, 0⟩ : S34) else (octet_Of.f k a0 a2).bind fun r1 => if (!r1) = true then some (⟨0, 0⟩ : S34) else if a0 ≤ 6 then ((tower_mul.f k a0 a1.f1 a2.f1).bind fun r2 => some (⟨0, r2⟩ : S34)) else (tower_mul.f k 6 a1.f0 a2.f0).bind fun r3 => (tower_mul.f k 6 a1.f1 a2.f1).bind fun r4 => (tower_mul.f k 6 (bits .xor .u64 a1.f0 a1.f1) (bits .xor .u64 a2.f0 a2.f1)).bind fun r5 => (tower_mulX.f k 6 r3).bind fun r6 => some (⟨bits .xor .u64 (bits .xor .u64 (bits .xor .u64 r5 r3) r4) r6, bits .xor .u64 r4 r3⟩ : S34)
def tower_Mul.sig (k : Nat) : Sig E.toTys := ⟨[.int .i64, .st 1, .st 1], [(false, .st 1)], none, fun x => f k x.1 x.2.1 x.2.2.1⟩
noncomputable def tower_Mul.body : Code := Try.f50.body.getD .skip
def tower_Mul.calls (k : Nat) : List (Nat × Sig E.toTys) := [(48, octet_Of.sig k), (80, tower_mul.sig k), (81, tower_mulX.sig k)]
def tower_Mul.cuts : List (Cut E (RT E.toTys [(false, .st 1)])) := []
theorem tower_Mul.ok (k : Nat) : Okf (XR E) Try.prog 50 (tower_Mul.sig k) := ⟨fn_ok (C := fun k => tab.ctx fun f => lk f (tower_Mul.calls k)) (fun k => tie _) k (fun j hj => calls_ok (kc (octet_Of.ok j) (kc (tower_mul.ok j) (kc (tower_mulX.ok j) (kn))))) 400 Try.func50 (body := tower_Mul.body) (res := [.cell 6 34]) rfl (by kernel_rfl) tower_Mul.cuts (kn) (fun x => by kernel_rfl), _, Try.func50, by kernel_rfl, by kernel_rfl⟩
/-! ### steeple/expr.Eval: function 19 -/
mutual
def expr_Eval.l5 : Nat → Int → List S36 → List S34 → List S34 → Int → Int → Int → Int → Option (S34 × Int)
  | 0, _, _, _, _, _, _, _, _ => none
  | k + 1, x0, x1, x2, x3, x4, x5, x6, x7 => if x5 < x4 then (if 0 ≤ x5 then (if x5 < (x3.length : Int) then ((octet_Of.f k x0 (rd34 x3 x5)).bind fun r1 => if (!r1) = true then some ((⟨0, 0⟩ : S34), 5) else expr_Eval.l5 k x0 x1 x2 x3 x4 (wrap64 (x5 + 1)) x6 x7) else none) else none) else expr_Eval.l12 k x0 x2 x1 (x1.length : Int) 0 x6 x7 []
def expr_Eval.l12 : Nat → Int → List S34 → List S36 → Int → Int → Int → Int → List S34 → Option (S34 × Int)
  | 0, _, _, _, _, _, _, _, _ => none
  | k + 1, x0, x1, x2, x3, x4, x5, x6, x7 => if x4 < x3 then (if 0 ≤ x4 then (if x4 < (x2.length : Int) then (if (rd36 x2 x4).f0 = 1 then expr_Eval.j24 k x0 x1 x2 x3 x4 x5 x6 x7 (rd36 x2 x4).f3.f0 (rd36 x2 x4).f3.f1 else if (rd36 x2 x4).f0 = 2 then (if 0 ≤ (rd36 x2 x4).f1 then (if (rd36 x2 x4).f1 < (x1.length : Int) then expr_Eval.j24 k x0 x1 x2 x3 x4 x5 x6 x7 (rd34 x1 (rd36 x2 x4).f1).f0 (rd34 x1 (rd36 x2 x4).f1).f1 else none) else none) else if (rd36 x2 x4).f0 = 3 then (if 0 ≤ (rd36 x2 x4).f1 then (if (rd36 x2 x4).f1 < (x7.length : Int) then (if 0 ≤ (rd36 x2 x4).f2 then (if (rd36 x2 x4).f2 < (x7.length : Int) then ((tower_Add.f k (rd34 x7 (rd36 x2 x4).f1) (rd34 x7 (rd36 x2 x4).f2)).bind fun r2 => expr_Eval.j24 k x0 x1 x2 x3 x4 x5 x6 x7 r2.f0 r2.f1) else none) else none) else none) else none) else if (rd36 x2 x4).f0 = 4 then (if 0 ≤ (rd36 x2 x4).f1 then (if (rd36 x2 x4).f1 < (x7.length : Int) then (if 0 ≤ (rd36 x2 x4).f2 then (if (rd36 x2 x4).f2 < (x7.length : Int) then ((tower_Mul.f k x0 (rd34 x7 (rd36 x2 x4).f1) (rd34 x7 (rd36 x2 x4).f2)).bind fun r3 => expr_Eval.j24 k x0 x1 x2 x3 x4 x5 x6 x7 r3.f0 r3.f1) else none) else none) else none) else none) else expr_Eval.j24 k x0 x1 x2 x3 x4 x5 x6 x7 0 0) else none) else none) else if 0 ≤ wrap64 ((x7.length : Int) - 1) then (if wrap64 ((x7.length : Int) - 1) < (x7.length : Int) then some (rd34 x7 (wrap64 ((x7.length : Int) - 1)), 0) else none) else none
def expr_Eval.j24 : Nat → Int → List S34 → List S36 → Int → Int → Int → Int → List S34 → Int → Int → Option (S34 × Int)
  | 0, _, _, _, _, _, _, _, _, _, _ => none
  | k + 1, x0, x1, x2, x3, x4, x5, x6, x7, x8, x9 => if x7.length + [(⟨x8, x9⟩ : S34)].length ≤ 140737488355328 / 16 then expr_Eval.l12 k x0 x1 x2 x3 (wrap64 (x4 + 1)) x5 x6 (x7 ++ [(⟨x8, x9⟩ : S34)]) else none
end
def expr_Eval.f (k : Nat) (a0 : Int) (a1 : List S36) (a2 : List S34) : Option (S34 × Int) := (expr_Check.f k a0 (a2.length : Int) a1).bind fun r0 => if r0 = 0 then expr_Eval.l5 k a0 a1 a2 a2 (a2.length : Int) 0 0 0 else some ((⟨0, 0⟩ : S34), r0)
def expr_Eval.sig (k : Nat) : Sig E.toTys := ⟨[.int .i64, .slice (.st 2), .slice (.st 1)], [(false, .st 1), (false, .int .i64)], none, fun x => f k x.1 x.2.1 x.2.2.1⟩
noncomputable def expr_Eval.body : Code := Try.f19.body.getD .skip
def expr_Eval.calls (k : Nat) : List (Nat × Sig E.toTys) := [(45, expr_Check.sig k), (48, octet_Of.sig k), (49, tower_Add.sig k), (50, tower_Mul.sig k)]
def expr_Eval.cuts : List (Cut E (RT E.toTys [(false, .st 1), (false, .int .i64)])) := [⟨true, 5, ⟨cat [.one (.val (.int .i64)), .one (.val (.slice (.st 2))), .one (.val (.slice (.st 1)))] (cat (ds 3) (cat [.one (.ptr 0 0)] (cat (ds 17) (cat [.one (.val (.slice (.st 1))), .one (.val (.int .i64)), .one (.val (.int .i64))] (ds 66))))), [.var [.val (.int .u64), .val (.int .u64)]], false⟩, fun k x => expr_Eval.l5 k x.1.1 x.1.2.1 x.1.2.2.1 x.1.2.2.2.1 x.1.2.2.2.2.1 x.1.2.2.2.2.2.1 x.2.1.1 x.2.1.2.1⟩,
  ⟨true, 12, ⟨cat [.one (.val (.int .i64))] (cat (ds 1) (cat [.one (.val (.slice (.st 1)))] (cat (ds 3) (cat [.one (.ptr 0 0)] (cat (ds 4) (cat [.one (.ref 1)] (cat (ds 24) (cat [.one (.val (.slice (.st 2))), .one (.val (.int .i64)), .one (.val (.int .i64))] (ds 54))))))))), [.var [.val (.int .u64), .val (.int .u64)], .arr (.st 1)], false⟩, fun k x => expr_Eval.l12 k x.1.1 x.1.2.1 x.1.2.2.1 x.1.2.2.2.1 x.1.2.2.2.2.1 x.2.1.1 x.2.1.2.1 x.2.2.1⟩,
  ⟨false, 24, ⟨cat [.one (.val (.int .i64))] (cat (ds 1) (cat [.one (.val (.slice (.st 1)))] (cat (ds 3) (cat [.one (.ptr 0 0)] (cat (ds 4) (cat [.one (.ref 1)] (cat (ds 2) (cat [.one (.ptr 2 0)] (cat (ds 21) (cat [.one (.val (.slice (.st 2))), .one (.val (.int .i64)), .one (.val (.int .i64))] (ds 54))))))))))), [.var [.val (.int .u64), .val (.int .u64)], .arr (.st 1), .var [.val (.int .u64), .val (.int .u64)]], false⟩, fun k x => expr_Eval.j24 k x.1.1 x.1.2.1 x.1.2.2.1 x.1.2.2.2.1 x.1.2.2.2.2.1 x.2.1.1 x.2.1.2.1 x.2.2.1 x.2.2.2.1.1 x.2.2.2.1.2.1⟩]
theorem expr_Eval.ok (k : Nat) : Okf (XR E) Try.prog 19 (expr_Eval.sig k) := ⟨fn_ok (C := fun k => tab.ctx fun f => lk f (expr_Eval.calls k)) (fun k => tie _) k (fun j hj => calls_ok (kc (expr_Check.ok j) (kc (octet_Of.ok j) (kc (tower_Add.ok j) (kc (tower_Mul.ok j) (kn)))))) 400 Try.func19 (body := expr_Eval.body) (res := [.cell 6 34, .tmp 7]) rfl (by kernel_rfl) expr_Eval.cuts (kc ⟨by kernel_rfl, rfl, fun _ => rfl, fun _ _ => by kernel_rfl⟩ (kc ⟨by kernel_rfl, rfl, fun _ => rfl, fun _ _ => by kernel_rfl⟩ (kc ⟨by kernel_rfl, rfl, fun _ => rfl, fun _ _ => by kernel_rfl⟩ (kn)))) (fun x => by kernel_rfl), _, Try.func19, by kernel_rfl, by kernel_rfl⟩
/-! ### steeple/expr.Degree: function 11 -/
def expr_Degree.f (k : Nat) (a0 : List S36) : Option Int := (expr_degrees.f k 7 9223372036854775807 a0).bind fun r0 => if r0.2 = 0 then (if 0 ≤ wrap64 ((r0.1.length : Int) - 1) then (if wrap64 ((r0.1.length : Int) - 1) < (r0.1.length : Int) then some (rdI r0.1 (wrap64 ((r0.1.length : Int) - 1))) else none) else none) else some (-1)
def expr_Degree.sig (k : Nat) : Sig E.toTys := ⟨[.slice (.st 2)], [(false, .int .i64)], none, fun x => f k x.1⟩
noncomputable def expr_Degree.body : Code := Try.f11.body.getD .skip
def expr_Degree.calls (k : Nat) : List (Nat × Sig E.toTys) := [(44, expr_degrees.sig k)]
def expr_Degree.cuts : List (Cut E (RT E.toTys [(false, .int .i64)])) := []
theorem expr_Degree.ok (k : Nat) : Okf (XR E) Try.prog 11 (expr_Degree.sig k) := ⟨fn_ok (C := fun k => tab.ctx fun f => lk f (expr_Degree.calls k)) (fun k => tie _) k (fun j hj => calls_ok (kc (expr_degrees.ok j) (kn))) 400 Try.func11 (body := expr_Degree.body) (res := [.tmp 2]) rfl (by kernel_rfl) expr_Degree.cuts (kn) (fun x => by kernel_rfl), _, Try.func11, by kernel_rfl, by kernel_rfl⟩
/-! ### steeple/steeplelaw16.awake: function 10 -/
def steeplelaw16_awake.f (k : Nat) : Option Bool := (steeplelaw16_example.f k).bind fun r0 => (expr_Eval.f k 1 r0 [(⟨0, 2⟩ : S34), (⟨0, 2⟩ : S34)]).bind fun r1 => (steeplelaw16_example.f k).bind fun r2 => (expr_Degree.f k r2).bind fun r3 => if r3 = 2 then (if r1.2 = 0 then some (decide (r1.1.f0 = 0 ∧ r1.1.f1 = 2)) else some false) else some false
def steeplelaw16_awake.sig (k : Nat) : Sig E.toTys := ⟨[], [(false, .bool)], none, fun x => f k⟩
noncomputable def steeplelaw16_awake.body : Code := Try.f10.body.getD .skip
def steeplelaw16_awake.calls (k : Nat) : List (Nat × Sig E.toTys) := [(43, steeplelaw16_example.sig k), (19, expr_Eval.sig k), (11, expr_Degree.sig k)]
def steeplelaw16_awake.cuts : List (Cut E (RT E.toTys [(false, .bool)])) := []
theorem steeplelaw16_awake.ok (k : Nat) : Okf (XR E) Try.prog 10 (steeplelaw16_awake.sig k) := ⟨fn_ok (C := fun k => tab.ctx fun f => lk f (steeplelaw16_awake.calls k)) (fun k => tie _) k (fun j hj => calls_ok (kc (steeplelaw16_example.ok j) (kc (expr_Eval.ok j) (kc (expr_Degree.ok j) (kn))))) 400 Try.func10 (body := steeplelaw16_awake.body) (res := [.tmp 0]) rfl (by kernel_rfl) steeplelaw16_awake.cuts (kn) (fun x => by kernel_rfl), _, Try.func10, by kernel_rfl, by kernel_rfl⟩
/-! ### steeple/steeplelaw16.Ref: function 13 -/
def steeplelaw16_Ref.l3 : Nat → List S36 → Int → List S92 → Option (List S92)
  | 0, _, _, _ => none
  | k + 1, x0, x1, x2 => if x1 < (x0.length : Int) then (if 0 ≤ x1 then (if x1 < (x0.length : Int) then (if 0 ≤ x1 then (if x1 < (x0.length : Int) then (if 0 ≤ x1 then (if x1 < (x0.length : Int) then (if 0 ≤ x1 then (if x1 < (x0.length : Int) then (if x2.length + [(⟨(rd36 x0 x1).f0, (rd36 x0 x1).f1, (rd36 x0 x1).f2, (⟨(rd36 x0 x1).f3.f0, (rd36 x0 x1).f3.f1⟩ : S71)⟩ : S92)].length ≤ 140737488355328 / 40 then steeplelaw16_Ref.l3 k x0 (wrap64 (x1 + 1)) (x2 ++ [(⟨(rd36 x0 x1).f0, (rd36 x0 x1).f1, (rd36 x0 x1).f2, (⟨(rd36 x0 x1).f3.f0, (rd36 x0 x1).f3.f1⟩ : S71)⟩ : S92)]) else none) else none) else none) else none) else none) else none) else none) else none) else none) else some x2
def steeplelaw16_Ref.f (k : Nat) (a0 : List S36) : Option (List S92) := steeplelaw16_Ref.l3 k a0 0 []
def steeplelaw16_Ref.sig (k : Nat) : Sig E.toTys := ⟨[.slice (.st 2)], [(true, .slice (.st 4))], none, fun x => f k x.1⟩
noncomputable def steeplelaw16_Ref.body : Code := Try.f13.body.getD .skip
def steeplelaw16_Ref.calls (k : Nat) : List (Nat × Sig E.toTys) := []
def steeplelaw16_Ref.cuts : List (Cut E (RT E.toTys [(true, .slice (.st 4))])) := [⟨true, 3, ⟨cat [.one (.val (.slice (.st 2)))] (cat (ds 2) (cat [.one (.ref 0), .one (.val (.int .i64))] (ds 31))), [.arr (.st 4)], false⟩, fun k x => steeplelaw16_Ref.l3 k x.1.1 x.1.2.1 x.2.1⟩]
theorem steeplelaw16_Ref.ok (k : Nat) : Okf (XR E) Try.prog 13 (steeplelaw16_Ref.sig k) := ⟨fn_ok (C := fun k => tab.ctx fun f => lk f (steeplelaw16_Ref.calls k)) (fun k => tie _) k (fun j hj => calls_ok (kn)) 400 Try.func13 (body := steeplelaw16_Ref.body) (res := [.tmp 2]) rfl (by kernel_rfl) steeplelaw16_Ref.cuts (kc ⟨by kernel_rfl, rfl, fun _ => rfl, fun _ _ => by kernel_rfl⟩ (kn)) (fun x => by kernel_rfl), _, Try.func13, by kernel_rfl, by kernel_rfl⟩
/-! ### steeple/steeplelaw16.ExprTrees: function 4 -/
def steeplelaw16_ExprTrees.f (k : Nat) (a0 : Int) (a1 : List S36) (a2 : List S34) : Option Bool := if (a1.length : Int) > 60 then ((steeplelaw16_awake.f k).bind fun r0 => some r0) else if (a2.length : Int) > 20 then ((steeplelaw16_awake.f k).bind fun r1 => some r1) else (steeplelaw16_Ref.f k a1).bind fun r2 => none
def steeplelaw16_ExprTrees.sig (k : Nat) : Sig E.toTys := ⟨[.int .i64, .slice (.st 2), .slice (.st 1)], [(false, .bool)], none, fun x => f k x.1 x.2.1 x.2.2.1⟩
noncomputable def steeplelaw16_ExprTrees.body : Code := Try.f4.body.getD .skip
def steeplelaw16_ExprTrees.calls (k : Nat) : List (Nat × Sig E.toTys) := [(10, steeplelaw16_awake.sig k), (13, steeplelaw16_Ref.sig k)]
def steeplelaw16_ExprTrees.cuts : List (Cut E (RT E.toTys [(false, .bool)])) := []
theorem steeplelaw16_ExprTrees.ok (k : Nat) : Okf (XR E) Try.prog 4 (steeplelaw16_ExprTrees.sig k) := ⟨fn_ok (C := fun k => tab.ctx fun f => lk f (steeplelaw16_ExprTrees.calls k)) (fun k => tie _) k (fun j hj => calls_ok (kc (steeplelaw16_awake.ok j) (kc (steeplelaw16_Ref.ok j) (kn)))) 400 Try.func4 (body := steeplelaw16_ExprTrees.body) (res := [.tmp 6]) rfl (by kernel_rfl) steeplelaw16_ExprTrees.cuts (kn) (fun x => by kernel_rfl), _, Try.func4, by kernel_rfl, by kernel_rfl⟩
/-! ### steeple/steeplelaw09.Few: function 20 -/
def steeplelaw09_Few.l4 : Nat → List (List S34) → Int → Int → Option Bool
  | 0, _, _, _ => none
  | k + 1, x0, x1, x2 => if x2 < (x0.length : Int) then (if 0 ≤ x2 then (if x2 < (x0.length : Int) then (if ((rdL x0 x2).length : Int) > x1 then some false else steeplelaw09_Few.l4 k x0 x1 (wrap64 (x2 + 1))) else none) else none) else some true
def steeplelaw09_Few.f (k : Nat) (a0 : List (List S34)) (a1 : Int) (a2 : Int) : Option Bool := if (a0.length : Int) > a1 then some false else steeplelaw09_Few.l4 k a0 a2 0
def steeplelaw09_Few.sig (k : Nat) : Sig E.toTys := ⟨[.slice (.slice (.st 1)), .int .i64, .int .i64], [(false, .bool)], none, fun x => f k x.1 x.2.1 x.2.2.1⟩
noncomputable def steeplelaw09_Few.body : Code := Try.f20.body.getD .skip
def steeplelaw09_Few.calls (k : Nat) : List (Nat × Sig E.toTys) := []
def steeplelaw09_Few.cuts : List (Cut E (RT E.toTys [(false, .bool)])) := [⟨true, 4, ⟨cat [.one (.val (.slice (.slice (.st 1))))] (cat (ds 1) (cat [.one (.val (.int .i64))] (cat (ds 4) (cat [.one (.val (.int .i64))] (ds 17))))), [], false⟩, fun k x => steeplelaw09_Few.l4 k x.1.1 x.1.2.1 x.1.2.2.1⟩]
theorem steeplelaw09_Few.ok (k : Nat) : Okf (XR E) Try.prog 20 (steeplelaw09_Few.sig k) := ⟨fn_ok (C := fun k => tab.ctx fun f => lk f (steeplelaw09_Few.calls k)) (fun k => tie _) k (fun j hj => calls_ok (kn)) 400 Try.func20 (body := steeplelaw09_Few.body) (res := [.tmp 6]) rfl (by kernel_rfl) steeplelaw09_Few.cuts (kc ⟨by kernel_rfl, rfl, fun _ => rfl, fun _ _ => by kernel_rfl⟩ (kn)) (fun x => by kernel_rfl), _, Try.func20, by kernel_rfl, by kernel_rfl⟩
/-! ### steeple/weave.ask: function 82 -/
def weave_ask.f (k : Nat) (a0 : Int) (a1 : Int) : Option Int := (octet_Wide.f k a0).bind fun r0 => if r0 = 0 then some 1 else (octet_Wide.f k a1).bind fun r1 => if r1 = 0 then some 1 else if a1 < a0 then some 1 else some 0
def weave_ask.sig (k : Nat) : Sig E.toTys := ⟨[.int .i64, .int .i64], [(false, .int .i64)], none, fun x => f k x.1 x.2.1⟩
noncomputable def weave_ask.body : Code := Try.f82.body.getD .skip
def weave_ask.calls (k : Nat) : List (Nat × Sig E.toTys) := [(77, octet_Wide.sig k)]
def weave_ask.cuts : List (Cut E (RT E.toTys [(false, .int .i64)])) := []
theorem weave_ask.ok (k : Nat) : Okf (XR E) Try.prog 82 (weave_ask.sig k) := ⟨fn_ok (C := fun k => tab.ctx fun f => lk f (weave_ask.calls k)) (fun k => tie _) k (fun j hj => calls_ok (kc (octet_Wide.ok j) (kn))) 400 Try.func82 (body := weave_ask.body) (res := [.tmp 4]) rfl (by kernel_rfl) weave_ask.cuts (kn) (fun x => by kernel_rfl), _, Try.func82, by kernel_rfl, by kernel_rfl⟩
/-! ### steeple/weave.of$1: function 116 -/
def weave_of_1.f (k : Nat) (a0 : S34) (a1 : Option Int) : Option Bool := (match a1 with | none => none | some r0 => (octet_Of.f k r0 a0).bind fun r1 => some (!r1))
def weave_of_1.sig (k : Nat) : Sig E.toTys := ⟨[.st 1, .ptr (.int .i64)], [(false, .bool)], none, fun x => f k x.1 x.2.1⟩
noncomputable def weave_of_1.body : Code := Try.f116.body.getD .skip
def weave_of_1.calls (k : Nat) : List (Nat × Sig E.toTys) := [(48, octet_Of.sig k)]
def weave_of_1.cuts : List (Cut E (RT E.toTys [(false, .bool)])) := []
theorem weave_of_1.ok (k : Nat) : Okf (XR E) Try.prog 116 (weave_of_1.sig k) := ⟨fn_ok (C := fun k => tab.ctx fun f => lk f (weave_of_1.calls k)) (fun k => tie _) k (fun j hj => calls_ok (kc (octet_Of.ok j) (kn))) 400 Try.func116 (body := weave_of_1.body) (res := [.tmp 3]) rfl (by kernel_rfl) weave_of_1.cuts (kn) (fun x => by kernel_rfl), _, Try.func116, by kernel_rfl, by kernel_rfl⟩
/-! ### slices.IndexFunc: function 125 -/
def slices_IndexFunc125_c116.l2 : Nat → List S34 → Int → Int → Int → Option Int
  | 0, _, _, _, _ => none
  | k + 1, x0, x1, x2, x3 => if x3 < x2 then (if 0 ≤ x3 then (if x3 < (x0.length : Int) then ((weave_of_1.f k (rd34 x0 x3) (some x1)).bind fun r0 => if r0 = true then some x3 else slices_IndexFunc125_c116.l2 k x0 x1 x2 (wrap64 (x3 + 1))) else none) else none) else some (-1)
def slices_IndexFunc125_c116.f (k : Nat) (a0 : List S34) (a1 : Int) : Option Int := slices_IndexFunc125_c116.l2 k a0 a1 (a0.length : Int) 0
def slices_IndexFunc125_c116.sig (k : Nat) : Sig E.toTys := ⟨[.slice (.st 1), .ext 116 (.int .i64)], [(false, .int .i64)], none, fun x => f k x.1 x.2.1⟩
noncomputable def slices_IndexFunc125_c116.body : Code := Try.f125.body.getD .skip
def slices_IndexFunc125_c116.calls (k : Nat) : List (Nat × Sig E.toTys) := [(116, weave_of_1.sig k)]
def slices_IndexFunc125_c116.cuts : List (Cut E (RT E.toTys [(false, .int .i64)])) := [⟨true, 2, ⟨cat [.one (.val (.slice (.st 1))), .one (.val (.ext 116 (.int .i64)))] (cat (ds 5) (cat [.one (.val (.int .i64)), .one (.val (.int .i64))] (ds 10))), [], false⟩, fun k x => slices_IndexFunc125_c116.l2 k x.1.1 x.1.2.1 x.1.2.2.1 x.1.2.2.2.1⟩]
theorem slices_IndexFunc125_c116.ok (k : Nat) : Okf (XR E) Try.prog 125 (slices_IndexFunc125_c116.sig k) := ⟨fn_ok (C := fun k => tab.ctx fun f => lk f (slices_IndexFunc125_c116.calls k)) (fun k => tie _) k (fun j hj => calls_ok (kc (weave_of_1.ok j) (kn))) 400 Try.func125 (body := slices_IndexFunc125_c116.body) (res := [.tmp 4]) rfl (by kernel_rfl) slices_IndexFunc125_c116.cuts (kc ⟨by kernel_rfl, rfl, fun _ => rfl, fun _ _ => by kernel_rfl⟩ (kn)) (fun x => by kernel_rfl), _, Try.func125, by kernel_rfl, by kernel_rfl⟩
/-! ### slices.ContainsFunc: function 98 -/
def slices_ContainsFunc98_c116.f (k : Nat) (a0 : List S34) (a1 : Int) : Option Bool := (slices_IndexFunc125_c116.f k a0 a1).bind fun r0 => some (decide (r0 ≥ 0))
def slices_ContainsFunc98_c116.sig (k : Nat) : Sig E.toTys := ⟨[.slice (.st 1), .ext 116 (.int .i64)], [(false, .bool)], none, fun x => f k x.1 x.2.1⟩
noncomputable def slices_ContainsFunc98_c116.body : Code := Try.f98.body.getD .skip
def slices_ContainsFunc98_c116.calls (k : Nat) : List (Nat × Sig E.toTys) := [(125, slices_IndexFunc125_c116.sig k)]
def slices_ContainsFunc98_c116.cuts : List (Cut E (RT E.toTys [(false, .bool)])) := []
theorem slices_ContainsFunc98_c116.ok (k : Nat) : Okf (XR E) Try.prog 98 (slices_ContainsFunc98_c116.sig k) := ⟨fn_ok (C := fun k => tab.ctx fun f => lk f (slices_ContainsFunc98_c116.calls k)) (fun k => tie _) k (fun j hj => calls_ok (kc (slices_IndexFunc125_c116.ok j) (kn))) 400 Try.func98 (body := slices_ContainsFunc98_c116.body) (res := [.tmp 4]) rfl (by kernel_rfl) slices_ContainsFunc98_c116.cuts (kn) (fun x => by kernel_rfl), _, Try.func98, by kernel_rfl, by kernel_rfl⟩
/-! ### steeple/weave.of: function 83 -/
def weave_of.f (k : Nat) (a0 : Int) (a1 : List S34) : Option Bool := (slices_ContainsFunc98_c116.f k a1 a0).bind fun r0 => some (!r0)
def weave_of.sig (k : Nat) : Sig E.toTys := ⟨[.int .i64, .slice (.st 1)], [(false, .bool)], none, fun x => f k x.1 x.2.1⟩
noncomputable def weave_of.body : Code := Try.f83.body.getD .skip
def weave_of.calls (k : Nat) : List (Nat × Sig E.toTys) := [(98, slices_ContainsFunc98_c116.sig k)]
def weave_of.cuts : List (Cut E (RT E.toTys [(false, .bool)])) := []
theorem weave_of.ok (k : Nat) : Okf (XR E) Try.prog 83 (weave_of.sig k) := ⟨fn_ok (C := fun k => tab.ctx fun f => lk f (weave_of.calls k)) (fun k => tie _) k (fun j hj => calls_ok (kc (slices_ContainsFunc98_c116.ok j) (kn))) 400 Try.func83 (body := weave_of.body) (res := [.tmp 4]) rfl (by kernel_rfl) weave_of.cuts (kn) (fun x => by kernel_rfl), _, Try.func83, by kernel_rfl, by kernel_rfl⟩
/-! ### steeple/weave.up: function 84 -/
def weave_up.f (k : Nat) (a0 : S34) (a1 : Int) : Option S34 := if a1 = 0 then some a0 else if a1 ≥ 64 then (if 0 ≤ wrap64 (a1 - 64) then some (⟨shl .u64 a0.f1 (wrap64 (a1 - 64)), 0⟩ : S34) else none) else if 0 ≤ a1 then (if 0 ≤ wrap64 (64 - a1) then (if 0 ≤ a1 then some (⟨bits .or .u64 (shl .u64 a0.f0 a1) (shr .u64 a0.f1 (wrap64 (64 - a1))), shl .u64 a0.f1 a1⟩ : S34) else none) else none) else none
def weave_up.sig (k : Nat) : Sig E.toTys := ⟨[.st 1, .int .i64], [(false, .st 1)], none, fun x => f k x.1 x.2.1⟩
noncomputable def weave_up.body : Code := Try.f84.body.getD .skip
def weave_up.calls (k : Nat) : List (Nat × Sig E.toTys) := []
def weave_up.cuts : List (Cut E (RT E.toTys [(false, .st 1)])) := []
theorem weave_up.ok (k : Nat) : Okf (XR E) Try.prog 84 (weave_up.sig k) := ⟨fn_ok (C := fun k => tab.ctx fun f => lk f (weave_up.calls k)) (fun k => tie _) k (fun j hj => calls_ok (kn)) 400 Try.func84 (body := weave_up.body) (res := [.cell 4 34]) rfl (by kernel_rfl) weave_up.cuts (kn) (fun x => by kernel_rfl), _, Try.func84, by kernel_rfl, by kernel_rfl⟩
/-! ### steeple/weave.Gather: function 51 -/
mutual
def weave_Gather.l11 : Nat → Int → Int → List S34 → Int → Int → List S34 → Option ((List S34) × Int)
  | 0, _, _, _, _, _, _ => none
  | k + 1, x0, x1, x2, x3, x4, x5 => if x4 < x3 then (if 0 ≤ x4 then (if x4 < (x2.length : Int) then (if x1 = 0 then none else if Int.tmod x4 x1 = 0 then (if x5.length + [(⟨0, 0⟩ : S34)].length ≤ 140737488355328 / 16 then weave_Gather.j15 k x0 x1 x4 x2 x3 x4 (x5 ++ [(⟨0, 0⟩ : S34)]) (rd34 x2 x4).f0 (rd34 x2 x4).f1 else none) else weave_Gather.j15 k x0 x1 x4 x2 x3 x4 x5 (rd34 x2 x4).f0 (rd34 x2 x4).f1) else none) else none) else some (x5, 0)
def weave_Gather.j15 : Nat → Int → Int → Int → List S34 → Int → Int → List S34 → Int → Int → Option ((List S34) × Int)
  | 0, _, _, _, _, _, _, _, _, _ => none
  | k + 1, x0, x1, x2, x3, x4, x5, x6, x7, x8 => if 0 ≤ wrap64 ((x6.length : Int) - 1) then (if wrap64 ((x6.length : Int) - 1) < (x6.length : Int) then (if x1 = 0 then none else if 0 ≤ x0 then ((weave_up.f k (⟨x7, x8⟩ : S34) (shl .i64 (Int.tmod x2 x1) x0)).bind fun r2 => (tower_Add.f k (rd34 x6 (wrap64 ((x6.length : Int) - 1))) r2).bind fun r3 => if 0 ≤ wrap64 ((x6.length : Int) - 1) then (if wrap64 ((x6.length : Int) - 1) < (x6.length : Int) then weave_Gather.l11 k x0 x1 x3 x4 (wrap64 (x5 + 1)) (x6.set (Int.toNat (wrap64 ((x6.length : Int) - 1))) r3) else none) else none) else none) else none) else none
end
def weave_Gather.f (k : Nat) (a0 : Int) (a1 : Int) (a2 : List S34) : Option ((List S34) × Int) := (weave_ask.f k a0 a1).bind fun r0 => if r0 = 0 then (if 0 ≤ wrap64 (a1 - a0) then (if shl .i64 1 (wrap64 (a1 - a0)) = 0 then none else if Int.tmod (a2.length : Int) (shl .i64 1 (wrap64 (a1 - a0))) = 0 then ((weave_of.f k a0 a2).bind fun r1 => if (!r1) = true then some ([], 5) else weave_Gather.l11 k a0 (shl .i64 1 (wrap64 (a1 - a0))) a2 (a2.length : Int) 0 []) else some ([], 6)) else none) else some ([], r0)
def weave_Gather.sig (k : Nat) : Sig E.toTys := ⟨[.int .i64, .int .i64, .slice (.st 1)], [(true, .slice (.st 1)), (false, .int .i64)], none, fun x => f k x.1 x.2.1 x.2.2.1⟩
noncomputable def weave_Gather.body : Code := Try.f51.body.getD .skip
def weave_Gather.calls (k : Nat) : List (Nat × Sig E.toTys) := [(82, weave_ask.sig k), (83, weave_of.sig k), (84, weave_up.sig k), (49, tower_Add.sig k)]
def weave_Gather.cuts : List (Cut E (RT E.toTys [(true, .slice (.st 1)), (false, .int .i64)])) := [⟨true, 11, ⟨cat [.one (.val (.int .i64))] (cat (ds 8) (cat [.one (.val (.int .i64)), .one (.ref 0)] (cat (ds 24) (cat [.one (.val (.slice (.st 1))), .one (.val (.int .i64)), .one (.val (.int .i64))] (ds 32))))), [.arr (.st 1)], false⟩, fun k x => weave_Gather.l11 k x.1.1 x.1.2.1 x.1.2.2.1 x.1.2.2.2.1 x.1.2.2.2.2.1 x.2.1⟩,
  ⟨false, 15, ⟨cat [.one (.val (.int .i64))] (cat (ds 8) (cat [.one (.val (.int .i64)), .one (.ref 0), .one (.val (.int .i64)), .one (.ptr 1 0)] (cat (ds 22) (cat [.one (.val (.slice (.st 1))), .one (.val (.int .i64)), .one (.val (.int .i64))] (ds 32))))), [.arr (.st 1), .var [.val (.int .u64), .val (.int .u64)]], false⟩, fun k x => weave_Gather.j15 k x.1.1 x.1.2.1 x.1.2.2.1 x.1.2.2.2.1 x.1.2.2.2.2.1 x.1.2.2.2.2.2.1 x.2.1 x.2.2.1.1 x.2.2.1.2.1⟩]
theorem weave_Gather.ok (k : Nat) : Okf (XR E) Try.prog 51 (weave_Gather.sig k) := ⟨fn_ok (C := fun k => tab.ctx fun f => lk f (weave_Gather.calls k)) (fun k => tie _) k (fun j hj => calls_ok (kc (weave_ask.ok j) (kc (weave_of.ok j) (kc (weave_up.ok j) (kc (tower_Add.ok j) (kn)))))) 400 Try.func51 (body := weave_Gather.body) (res := [.tmp 6, .tmp 7]) rfl (by kernel_rfl) weave_Gather.cuts (kc ⟨by kernel_rfl, rfl, fun _ => rfl, fun _ _ => by kernel_rfl⟩ (kc ⟨by kernel_rfl, rfl, fun _ => rfl, fun _ _ => by kernel_rfl⟩ (kn))) (fun x => by kernel_rfl), _, Try.func51, by kernel_rfl, by kernel_rfl⟩
/-! ### slices.Clone: function 85 -/
def slices_Clone85.f (k : Nat) (a0 : List S34) : Option (List S34) := if ([] : List Int).length + a0.length ≤ 140737488355328 / 16 then some ([] ++ a0) else none
def slices_Clone85.sig (k : Nat) : Sig E.toTys := ⟨[.slice (.st 1)], [(true, .slice (.st 1))], none, fun x => f k x.1⟩
noncomputable def slices_Clone85.body : Code := Try.f85.body.getD .skip
def slices_Clone85.calls (k : Nat) : List (Nat × Sig E.toTys) := []
def slices_Clone85.cuts : List (Cut E (RT E.toTys [(true, .slice (.st 1))])) := []
noncomputable def slices_Clone85.fn0 : Func := Try.f85
def slices_Clone85.st0 (xs : List S34) : St E.toTys := ⟨[.c (.s (.val (.slice (.st 1)) xs)), .c (.s .dead), .c (.s .emp), .c (.s .dead), .c (.s .dead), .c (.s .dead), .c (.s .dead), .c (.s .dead)], []⟩
theorem slices_Clone85.ok (k : Nat) : Okf (XR E) Try.prog 85 (slices_Clone85.sig k) := ⟨clone_ok (C := tab.ctx fun f => lk f (slices_Clone85.calls k)) (tie _) (calls_ok kn) (t := 41) (u := .st 1) Try.func85 rfl (res := [.tmp 2]) (by kernel_rfl) ⟨rfl, rfl, rfl⟩ ⟨rfl, rfl, rfl⟩ (by kernel_rfl) slices_Clone85.st0 (fun x => by kernel_rfl) (fun _ => rfl) (fun _ _ => ⟨rfl, rfl⟩) (F := fun x => slices_Clone85.f k x) (by kernel_rfl) (fun xs => by kernel_rfl), _, Try.func85, by kernel_rfl, by kernel_rfl⟩
/-! ### steeple/weave.Cut: function 52 -/
def weave_Cut.l8 : Nat → Int → List S34 → Int → List (List S34) → Option ((List (List S34)) × Int)
  | 0, _, _, _, _ => none
  | k + 1, x0, x1, x2, x3 => if x2 < (x1.length : Int) then (if wrap64 (x2 + x0) = wrap64 (x2 + x0) then (if 0 ≤ x2 then (if x2 ≤ wrap64 (x2 + x0) then (if wrap64 (x2 + x0) ≤ (x1.length : Int) then (if x3.length + [(x1.take (Int.toNat (wrap64 (x2 + x0)))).drop (Int.toNat x2)].length ≤ 140737488355328 / 24 then weave_Cut.l8 k x0 x1 (wrap64 (x2 + x0)) (x3 ++ [(x1.take (Int.toNat (wrap64 (x2 + x0)))).drop (Int.toNat x2)]) else none) else none) else none) else none) else none) else some (x3, 0)
def weave_Cut.f (k : Nat) (a0 : List S34) (a1 : Int) : Option ((List (List S34)) × Int) := if a1 < 1 then some ([], 1) else if a1 = 0 then none else if Int.tmod (a0.length : Int) a1 = 0 then ((slices_Clone85.f k a0).bind fun r0 => weave_Cut.l8 k a1 r0 0 []) else some ([], 6)
def weave_Cut.sig (k : Nat) : Sig E.toTys := ⟨[.slice (.st 1), .int .i64], [(true, .slice (.slice (.st 1))), (false, .int .i64)], none, fun x => f k x.1 x.2.1⟩
noncomputable def weave_Cut.body : Code := Try.f52.body.getD .skip
def weave_Cut.calls (k : Nat) : List (Nat × Sig E.toTys) := [(85, slices_Clone85.sig k)]
def weave_Cut.cuts : List (Cut E (RT E.toTys [(true, .slice (.slice (.st 1))), (false, .int .i64)])) := [⟨true, 8, ⟨cat (ds 1) (cat [.one (.val (.int .i64))] (cat (ds 4) (cat [.one (.val (.slice (.st 1))), .one (.ref 0), .one (.val (.int .i64))] (ds 31)))), [.arr (.slice (.st 1))], false⟩, fun k x => weave_Cut.l8 k x.1.1 x.1.2.1 x.1.2.2.1 x.2.1⟩]
theorem weave_Cut.ok (k : Nat) : Okf (XR E) Try.prog 52 (weave_Cut.sig k) := ⟨fn_ok (C := fun k => tab.ctx fun f => lk f (weave_Cut.calls k)) (fun k => tie _) k (fun j hj => calls_ok (kc (slices_Clone85.ok j) (kn))) 400 Try.func52 (body := weave_Cut.body) (res := [.tmp 4, .tmp 5]) rfl (by kernel_rfl) weave_Cut.cuts (kc ⟨by kernel_rfl, rfl, fun _ => rfl, fun _ _ => by kernel_rfl⟩ (kn)) (fun x => by kernel_rfl), _, Try.func52, by kernel_rfl, by kernel_rfl⟩
/-! ### steeple/steeplelaw09.awake: function 21 -/
def steeplelaw09_awake.f (k : Nat) : Option Bool := (weave_Gather.f k 1 3 [(⟨0, 1⟩ : S34), (⟨0, 2⟩ : S34), (⟨0, 3⟩ : S34), (⟨0, 0⟩ : S34)]).bind fun r0 => (weave_Cut.f k r0.1 1).bind fun r1 => if r0.2 = 0 then (if r1.2 = 0 then (if (r0.1.length : Int) = 1 then (if 0 < (r0.1.length : Int) then (if (rd34 r0.1 (0 : Int)).f0 = 0 ∧ (rd34 r0.1 (0 : Int)).f1 = 57 then some (decide ((r1.1.length : Int) = 1)) else some false) else none) else some false) else some false) else some false
def steeplelaw09_awake.sig (k : Nat) : Sig E.toTys := ⟨[], [(false, .bool)], none, fun x => f k⟩
noncomputable def steeplelaw09_awake.body : Code := Try.f21.body.getD .skip
def steeplelaw09_awake.calls (k : Nat) : List (Nat × Sig E.toTys) := [(51, (weave_Gather.sig k).weak), (52, weave_Cut.sig k)]
def steeplelaw09_awake.cuts : List (Cut E (RT E.toTys [(false, .bool)])) := []
theorem steeplelaw09_awake.ok (k : Nat) : Okf (XR E) Try.prog 21 (steeplelaw09_awake.sig k) := ⟨fn_ok (C := fun k => tab.ctx fun f => lk f (steeplelaw09_awake.calls k)) (fun k => tie _) k (fun j hj => calls_ok (kc (weave_Gather.ok j).weak (kc (weave_Cut.ok j) (kn)))) 400 Try.func21 (body := steeplelaw09_awake.body) (res := [.tmp 0]) rfl (by kernel_rfl) steeplelaw09_awake.cuts (kn) (fun x => by kernel_rfl), _, Try.func21, by kernel_rfl, by kernel_rfl⟩
/-! ### (*steeple/code.Code).Size: function 87 -/
def code_Code_Size.f (k : Nat) (a0 : Option S143) : Option Int := (match a0 with | none => some 0 | some _ => (match a0 with | none => none | some r0 => if 0 ≤ r0.f1 then some (shl .i64 1 r0.f1) else none))
def code_Code_Size.sig (k : Nat) : Sig E.toTys := ⟨[.ptr (.st 6)], [(false, .int .i64)], none, fun x => f k x.1⟩
noncomputable def code_Code_Size.body : Code := Try.f87.body.getD .skip
def code_Code_Size.calls (k : Nat) : List (Nat × Sig E.toTys) := []
def code_Code_Size.cuts : List (Cut E (RT E.toTys [(false, .int .i64)])) := []
theorem code_Code_Size.ok (k : Nat) : Okf (XR E) Try.prog 87 (code_Code_Size.sig k) := ⟨fn_ok (C := fun k => tab.ctx fun f => lk f (code_Code_Size.calls k)) (fun k => tie _) k (fun j hj => calls_ok (kn)) 400 Try.func87 (body := code_Code_Size.body) (res := [.tmp 2]) rfl (by kernel_rfl) code_Code_Size.cuts (kn) (fun x => by kernel_rfl), _, Try.func87, by kernel_rfl, by kernel_rfl⟩
/-! ### (*steeple/linpoly.Space).Level: function 122 -/
def linpoly_Space_Level.f (k : Nat) (a0 : Option S177) : Option Int := (match a0 with | none => some 0 | some _ => (match a0 with | none => none | some r0 => some r0.f0))
def linpoly_Space_Level.sig (k : Nat) : Sig E.toTys := ⟨[.ptr (.st 5)], [(false, .int .i64)], none, fun x => f k x.1⟩
noncomputable def linpoly_Space_Level.body : Code := Try.f122.body.getD .skip
def linpoly_Space_Level.calls (k : Nat) : List (Nat × Sig E.toTys) := []
def linpoly_Space_Level.cuts : List (Cut E (RT E.toTys [(false, .int .i64)])) := []
theorem linpoly_Space_Level.ok (k : Nat) : Okf (XR E) Try.prog 122 (linpoly_Space_Level.sig k) := ⟨fn_ok (C := fun k => tab.ctx fun f => lk f (linpoly_Space_Level.calls k)) (fun k => tie _) k (fun j hj => calls_ok (kn)) 400 Try.func122 (body := linpoly_Space_Level.body) (res := [.tmp 2]) rfl (by kernel_rfl) linpoly_Space_Level.cuts (kn) (fun x => by kernel_rfl), _, Try.func122, by kernel_rfl, by kernel_rfl⟩
/-! ### (*steeple/code.Code).Level: function 118 -/
def code_Code_Level.f (k : Nat) (a0 : Option S143) : Option Int := (match a0 with | none => some 0 | some _ => (match a0 with | none => none | some r0 => (linpoly_Space_Level.f k r0.f0).bind fun r1 => some r1))
def code_Code_Level.sig (k : Nat) : Sig E.toTys := ⟨[.ptr (.st 6)], [(false, .int .i64)], none, fun x => f k x.1⟩
noncomputable def code_Code_Level.body : Code := Try.f118.body.getD .skip
def code_Code_Level.calls (k : Nat) : List (Nat × Sig E.toTys) := [(122, linpoly_Space_Level.sig k)]
def code_Code_Level.cuts : List (Cut E (RT E.toTys [(false, .int .i64)])) := []
theorem code_Code_Level.ok (k : Nat) : Okf (XR E) Try.prog 118 (code_Code_Level.sig k) := ⟨fn_ok (C := fun k => tab.ctx fun f => lk f (code_Code_Level.calls k)) (fun k => tie _) k (fun j hj => calls_ok (kc (linpoly_Space_Level.ok j) (kn))) 400 Try.func118 (body := code_Code_Level.body) (res := [.tmp 2]) rfl (by kernel_rfl) code_Code_Level.cuts (kn) (fun x => by kernel_rfl), _, Try.func118, by kernel_rfl, by kernel_rfl⟩
/-! ### (*steeple/code.Code).ask$1: function 117 -/
def code_Code_ask_1.f (k : Nat) (a0 : S34) (a1 : Option (Option S143)) : Option Bool := (match a1 with | none => none | some r0 => (code_Code_Level.f k r0).bind fun r1 => (octet_Of.f k r1 a0).bind fun r2 => some (!r2))
def code_Code_ask_1.sig (k : Nat) : Sig E.toTys := ⟨[.st 1, .ptr (.ptr (.st 6))], [(false, .bool)], none, fun x => f k x.1 x.2.1⟩
noncomputable def code_Code_ask_1.body : Code := Try.f117.body.getD .skip
def code_Code_ask_1.calls (k : Nat) : List (Nat × Sig E.toTys) := [(118, code_Code_Level.sig k), (48, octet_Of.sig k)]
def code_Code_ask_1.cuts : List (Cut E (RT E.toTys [(false, .bool)])) := []
theorem code_Code_ask_1.ok (k : Nat) : Okf (XR E) Try.prog 117 (code_Code_ask_1.sig k) := ⟨fn_ok (C := fun k => tab.ctx fun f => lk f (code_Code_ask_1.calls k)) (fun k => tie _) k (fun j hj => calls_ok (kc (code_Code_Level.ok j) (kc (octet_Of.ok j) (kn)))) 400 Try.func117 (body := code_Code_ask_1.body) (res := [.tmp 3]) rfl (by kernel_rfl) code_Code_ask_1.cuts (kn) (fun x => by kernel_rfl), _, Try.func117, by kernel_rfl, by kernel_rfl⟩
/-! ### slices.IndexFunc: function 125 -/
def slices_IndexFunc125_c117.l2 : Nat → List S34 → Option S143 → Int → Int → Option Int
  | 0, _, _, _, _ => none
  | k + 1, x0, x1, x2, x3 => if x3 < x2 then (if 0 ≤ x3 then (if x3 < (x0.length : Int) then ((code_Code_ask_1.f k (rd34 x0 x3) (some x1)).bind fun r0 => if r0 = true then some x3 else slices_IndexFunc125_c117.l2 k x0 x1 x2 (wrap64 (x3 + 1))) else none) else none) else some (-1)
def slices_IndexFunc125_c117.f (k : Nat) (a0 : List S34) (a1 : Option S143) : Option Int := slices_IndexFunc125_c117.l2 k a0 a1 (a0.length : Int) 0
def slices_IndexFunc125_c117.sig (k : Nat) : Sig E.toTys := ⟨[.slice (.st 1), .ext 117 (.ptr (.st 6))], [(false, .int .i64)], none, fun x => f k x.1 x.2.1⟩
noncomputable def slices_IndexFunc125_c117.body : Code := Try.f125.body.getD .skip
def slices_IndexFunc125_c117.calls (k : Nat) : List (Nat × Sig E.toTys) := [(117, code_Code_ask_1.sig k)]
def slices_IndexFunc125_c117.cuts : List (Cut E (RT E.toTys [(false, .int .i64)])) := [⟨true, 2, ⟨cat [.one (.val (.slice (.st 1))), .one (.val (.ext 117 (.ptr (.st 6))))] (cat (ds 5) (cat [.one (.val (.int .i64)), .one (.val (.int .i64))] (ds 10))), [], false⟩, fun k x => slices_IndexFunc125_c117.l2 k x.1.1 x.1.2.1 x.1.2.2.1 x.1.2.2.2.1⟩]
theorem slices_IndexFunc125_c117.ok (k : Nat) : Okf (XR E) Try.prog 125 (slices_IndexFunc125_c117.sig k) := ⟨fn_ok (C := fun k => tab.ctx fun f => lk f (slices_IndexFunc125_c117.calls k)) (fun k => tie _) k (fun j hj => calls_ok (kc (code_Code_ask_1.ok j) (kn))) 400 Try.func125 (body := slices_IndexFunc125_c117.body) (res := [.tmp 4]) rfl (by kernel_rfl) slices_IndexFunc125_c117.cuts (kc ⟨by kernel_rfl, rfl, fun _ => rfl, fun _ _ => by kernel_rfl⟩ (kn)) (fun x => by kernel_rfl), _, Try.func125, by kernel_rfl, by kernel_rfl⟩
/-! ### slices.ContainsFunc: function 98 -/
def slices_ContainsFunc98_c117.f (k : Nat) (a0 : List S34) (a1 : Option S143) : Option Bool := (slices_IndexFunc125_c117.f k a0 a1).bind fun r0 => some (decide (r0 ≥ 0))
def slices_ContainsFunc98_c117.sig (k : Nat) : Sig E.toTys := ⟨[.slice (.st 1), .ext 117 (.ptr (.st 6))], [(false, .bool)], none, fun x => f k x.1 x.2.1⟩
noncomputable def slices_ContainsFunc98_c117.body : Code := Try.f98.body.getD .skip
def slices_ContainsFunc98_c117.calls (k : Nat) : List (Nat × Sig E.toTys) := [(125, slices_IndexFunc125_c117.sig k)]
def slices_ContainsFunc98_c117.cuts : List (Cut E (RT E.toTys [(false, .bool)])) := []
theorem slices_ContainsFunc98_c117.ok (k : Nat) : Okf (XR E) Try.prog 98 (slices_ContainsFunc98_c117.sig k) := ⟨fn_ok (C := fun k => tab.ctx fun f => lk f (slices_ContainsFunc98_c117.calls k)) (fun k => tie _) k (fun j hj => calls_ok (kc (slices_IndexFunc125_c117.ok j) (kn))) 400 Try.func98 (body := slices_ContainsFunc98_c117.body) (res := [.tmp 4]) rfl (by kernel_rfl) slices_ContainsFunc98_c117.cuts (kn) (fun x => by kernel_rfl), _, Try.func98, by kernel_rfl, by kernel_rfl⟩
/-! ### (*steeple/code.Code).ask: function 86 -/
def code_Code_ask.j9 : Nat → Int → Option Int
  | 0, _ => none
  | k + 1, x0 => some x0
def code_Code_ask.f (k : Nat) (a0 : Option S143) (a1 : List S34) (a2 : Int) : Option Int := (match a0 with | none => code_Code_ask.j9 k 1 | some _ => if (a1.length : Int) = a2 then (if (a1.length : Int) > 0 then ((slices_ContainsFunc98_c117.f k a1 a0).bind fun r0 => if r0 = true then code_Code_ask.j9 k 5 else code_Code_ask.j9 k 0) else (slices_ContainsFunc98_c117.f k a1 a0).bind fun r1 => if r1 = true then code_Code_ask.j9 k 5 else code_Code_ask.j9 k 0) else code_Code_ask.j9 k 6)
def code_Code_ask.sig (k : Nat) : Sig E.toTys := ⟨[.ptr (.st 6), .slice (.st 1), .int .i64], [(false, .int .i64)], none, fun x => f k x.1 x.2.1 x.2.2.1⟩
noncomputable def code_Code_ask.body : Code := Try.f86.body.getD .skip
def code_Code_ask.calls (k : Nat) : List (Nat × Sig E.toTys) := [(98, slices_ContainsFunc98_c117.sig k)]
def code_Code_ask.cuts : List (Cut E (RT E.toTys [(false, .int .i64)])) := [⟨false, 9, ⟨cat (ds 7) (cat [.one (.val (.int .i64))] (ds 16)), [], false⟩, fun k x => code_Code_ask.j9 k x.1.1⟩]
theorem code_Code_ask.ok (k : Nat) : Okf (XR E) Try.prog 86 (code_Code_ask.sig k) := ⟨fn_ok (C := fun k => tab.ctx fun f => lk f (code_Code_ask.calls k)) (fun k => tie _) k (fun j hj => calls_ok (kc (slices_ContainsFunc98_c117.ok j) (kn))) 400 Try.func86 (body := code_Code_ask.body) (res := [.tmp 6]) rfl (by kernel_rfl) code_Code_ask.cuts (kc ⟨by kernel_rfl, rfl, fun _ => rfl, fun _ _ => by kernel_rfl⟩ (kn)) (fun x => by kernel_rfl), _, Try.func86, by kernel_rfl, by kernel_rfl⟩
/-! ### (*steeple/linpoly.Space).Dim: function 119 -/
def linpoly_Space_Dim.f (k : Nat) (a0 : Option S177) : Option Int := (match a0 with | none => some 0 | some _ => (match a0 with | none => none | some r0 => some (r0.f1.length : Int)))
def linpoly_Space_Dim.sig (k : Nat) : Sig E.toTys := ⟨[.ptr (.st 5)], [(false, .int .i64)], none, fun x => f k x.1⟩
noncomputable def linpoly_Space_Dim.body : Code := Try.f119.body.getD .skip
def linpoly_Space_Dim.calls (k : Nat) : List (Nat × Sig E.toTys) := []
def linpoly_Space_Dim.cuts : List (Cut E (RT E.toTys [(false, .int .i64)])) := []
theorem linpoly_Space_Dim.ok (k : Nat) : Okf (XR E) Try.prog 119 (linpoly_Space_Dim.sig k) := ⟨fn_ok (C := fun k => tab.ctx fun f => lk f (linpoly_Space_Dim.calls k)) (fun k => tie _) k (fun j hj => calls_ok (kn)) 400 Try.func119 (body := linpoly_Space_Dim.body) (res := [.tmp 2]) rfl (by kernel_rfl) linpoly_Space_Dim.cuts (kn) (fun x => by kernel_rfl), _, Try.func119, by kernel_rfl, by kernel_rfl⟩
end Go.Proofs.Ytmoekjdlpfjhiaa.B
namespace Go.Proofs.Ytmoekjdlpfjhiaa.B
open Go.Proofs.Ytmoekjdlpfjhiaa.V.B Go.RowKit
set_option linter.unusedVariables false
/-! ### (*steeple/code.Code).Long: function 88 -/
def code_Code_Long.f (k : Nat) (a0 : Option S143) : Option Int := (match a0 with | none => some 0 | some _ => (match a0 with | none => none | some r0 => (linpoly_Space_Dim.f k r0.f0).bind fun r1 => if 0 ≤ r1 then some (shl .i64 1 r1) else none))
def code_Code_Long.sig (k : Nat) : Sig E.toTys := ⟨[.ptr (.st 6)], [(false, .int .i64)], none, fun x => f k x.1⟩
noncomputable def code_Code_Long.body : Code := Try.f88.body.getD .skip
def code_Code_Long.calls (k : Nat) : List (Nat × Sig E.toTys) := [(119, linpoly_Space_Dim.sig k)]
def code_Code_Long.cuts : List (Cut E (RT E.toTys [(false, .int .i64)])) := []
theorem code_Code_Long.ok (k : Nat) : Okf (XR E) Try.prog 88 (code_Code_Long.sig k) := ⟨fn_ok (C := fun k => tab.ctx fun f => lk f (code_Code_Long.calls k)) (fun k => tie _) k (fun j hj => calls_ok (kc (linpoly_Space_Dim.ok j) (kn))) 400 Try.func88 (body := code_Code_Long.body) (res := [.tmp 2]) rfl (by kernel_rfl) code_Code_Long.cuts (kn) (fun x => by kernel_rfl), _, Try.func88, by kernel_rfl, by kernel_rfl⟩
/-! ### steeple/antt.size: function 135 -/
def antt_size.l2 : Nat → List S34 → Int → Int → Option Int
  | 0, _, _, _ => none
  | k + 1, x0, x1, x2 => if x2 < x1 then (if 0 ≤ x2 then (if (x0.length : Int) = shl .i64 1 x2 then some x2 else antt_size.l2 k x0 x1 (wrap64 (x2 + 1))) else none) else some (-1)
def antt_size.f (k : Nat) (a0 : Option S177) (a1 : List S34) : Option Int := (linpoly_Space_Dim.f k a0).bind fun r0 => antt_size.l2 k a1 (wrap64 (r0 + 1)) 0
def antt_size.sig (k : Nat) : Sig E.toTys := ⟨[.ptr (.st 5), .slice (.st 1)], [(false, .int .i64)], none, fun x => f k x.1 x.2.1⟩
noncomputable def antt_size.body : Code := Try.f135.body.getD .skip
def antt_size.calls (k : Nat) : List (Nat × Sig E.toTys) := [(119, linpoly_Space_Dim.sig k)]
def antt_size.cuts : List (Cut E (RT E.toTys [(false, .int .i64)])) := [⟨true, 2, ⟨cat (ds 1) (cat [.one (.val (.slice (.st 1)))] (cat (ds 6) (cat [.one (.val (.int .i64)), .one (.val (.int .i64))] (ds 9)))), [], false⟩, fun k x => antt_size.l2 k x.1.1 x.1.2.1 x.1.2.2.1⟩]
theorem antt_size.ok (k : Nat) : Okf (XR E) Try.prog 135 (antt_size.sig k) := ⟨fn_ok (C := fun k => tab.ctx fun f => lk f (antt_size.calls k)) (fun k => tie _) k (fun j hj => calls_ok (kc (linpoly_Space_Dim.ok j) (kn))) 400 Try.func135 (body := antt_size.body) (res := [.tmp 4]) rfl (by kernel_rfl) antt_size.cuts (kc ⟨by kernel_rfl, rfl, fun _ => rfl, fun _ _ => by kernel_rfl⟩ (kn)) (fun x => by kernel_rfl), _, Try.func135, by kernel_rfl, by kernel_rfl⟩
/-! ### steeple/antt.ask$1: function 136 -/
def antt_ask_1.f (k : Nat) (a0 : S34) (a1 : Option (Option S177)) : Option Bool := (match a1 with | none => none | some r0 => (linpoly_Space_Level.f k r0).bind fun r1 => (octet_Of.f k r1 a0).bind fun r2 => some (!r2))
def antt_ask_1.sig (k : Nat) : Sig E.toTys := ⟨[.st 1, .ptr (.ptr (.st 5))], [(false, .bool)], none, fun x => f k x.1 x.2.1⟩
noncomputable def antt_ask_1.body : Code := Try.f136.body.getD .skip
def antt_ask_1.calls (k : Nat) : List (Nat × Sig E.toTys) := [(122, linpoly_Space_Level.sig k), (48, octet_Of.sig k)]
def antt_ask_1.cuts : List (Cut E (RT E.toTys [(false, .bool)])) := []
theorem antt_ask_1.ok (k : Nat) : Okf (XR E) Try.prog 136 (antt_ask_1.sig k) := ⟨fn_ok (C := fun k => tab.ctx fun f => lk f (antt_ask_1.calls k)) (fun k => tie _) k (fun j hj => calls_ok (kc (linpoly_Space_Level.ok j) (kc (octet_Of.ok j) (kn)))) 400 Try.func136 (body := antt_ask_1.body) (res := [.tmp 3]) rfl (by kernel_rfl) antt_ask_1.cuts (kn) (fun x => by kernel_rfl), _, Try.func136, by kernel_rfl, by kernel_rfl⟩
/-! ### slices.IndexFunc: function 125 -/
def slices_IndexFunc125_c136.l2 : Nat → List S34 → Option S177 → Int → Int → Option Int
  | 0, _, _, _, _ => none
  | k + 1, x0, x1, x2, x3 => if x3 < x2 then (if 0 ≤ x3 then (if x3 < (x0.length : Int) then ((antt_ask_1.f k (rd34 x0 x3) (some x1)).bind fun r0 => if r0 = true then some x3 else slices_IndexFunc125_c136.l2 k x0 x1 x2 (wrap64 (x3 + 1))) else none) else none) else some (-1)
def slices_IndexFunc125_c136.f (k : Nat) (a0 : List S34) (a1 : Option S177) : Option Int := slices_IndexFunc125_c136.l2 k a0 a1 (a0.length : Int) 0
def slices_IndexFunc125_c136.sig (k : Nat) : Sig E.toTys := ⟨[.slice (.st 1), .ext 136 (.ptr (.st 5))], [(false, .int .i64)], none, fun x => f k x.1 x.2.1⟩
noncomputable def slices_IndexFunc125_c136.body : Code := Try.f125.body.getD .skip
def slices_IndexFunc125_c136.calls (k : Nat) : List (Nat × Sig E.toTys) := [(136, antt_ask_1.sig k)]
def slices_IndexFunc125_c136.cuts : List (Cut E (RT E.toTys [(false, .int .i64)])) := [⟨true, 2, ⟨cat [.one (.val (.slice (.st 1))), .one (.val (.ext 136 (.ptr (.st 5))))] (cat (ds 5) (cat [.one (.val (.int .i64)), .one (.val (.int .i64))] (ds 10))), [], false⟩, fun k x => slices_IndexFunc125_c136.l2 k x.1.1 x.1.2.1 x.1.2.2.1 x.1.2.2.2.1⟩]
theorem slices_IndexFunc125_c136.ok (k : Nat) : Okf (XR E) Try.prog 125 (slices_IndexFunc125_c136.sig k) := ⟨fn_ok (C := fun k => tab.ctx fun f => lk f (slices_IndexFunc125_c136.calls k)) (fun k => tie _) k (fun j hj => calls_ok (kc (antt_ask_1.ok j) (kn))) 400 Try.func125 (body := slices_IndexFunc125_c136.body) (res := [.tmp 4]) rfl (by kernel_rfl) slices_IndexFunc125_c136.cuts (kc ⟨by kernel_rfl, rfl, fun _ => rfl, fun _ _ => by kernel_rfl⟩ (kn)) (fun x => by kernel_rfl), _, Try.func125, by kernel_rfl, by kernel_rfl⟩
/-! ### slices.ContainsFunc: function 98 -/
def slices_ContainsFunc98_c136.f (k : Nat) (a0 : List S34) (a1 : Option S177) : Option Bool := (slices_IndexFunc125_c136.f k a0 a1).bind fun r0 => some (decide (r0 ≥ 0))
def slices_ContainsFunc98_c136.sig (k : Nat) : Sig E.toTys := ⟨[.slice (.st 1), .ext 136 (.ptr (.st 5))], [(false, .bool)], none, fun x => f k x.1 x.2.1⟩
noncomputable def slices_ContainsFunc98_c136.body : Code := Try.f98.body.getD .skip
def slices_ContainsFunc98_c136.calls (k : Nat) : List (Nat × Sig E.toTys) := [(125, slices_IndexFunc125_c136.sig k)]
def slices_ContainsFunc98_c136.cuts : List (Cut E (RT E.toTys [(false, .bool)])) := []
theorem slices_ContainsFunc98_c136.ok (k : Nat) : Okf (XR E) Try.prog 98 (slices_ContainsFunc98_c136.sig k) := ⟨fn_ok (C := fun k => tab.ctx fun f => lk f (slices_ContainsFunc98_c136.calls k)) (fun k => tie _) k (fun j hj => calls_ok (kc (slices_IndexFunc125_c136.ok j) (kn))) 400 Try.func98 (body := slices_ContainsFunc98_c136.body) (res := [.tmp 4]) rfl (by kernel_rfl) slices_ContainsFunc98_c136.cuts (kn) (fun x => by kernel_rfl), _, Try.func98, by kernel_rfl, by kernel_rfl⟩
/-! ### steeple/antt.ask: function 120 -/
def antt_ask.f (k : Nat) (a0 : Option S177) (a1 : List S34) (a2 : S34) : Option (Int × Int) := (match a0 with | none => some (0, 1) | some _ => (antt_size.f k a0 a1).bind fun r0 => if r0 < 0 then some (0, 6) else (linpoly_Space_Level.f k a0).bind fun r1 => (octet_Of.f k r1 a2).bind fun r2 => if (!r2) = true then some (0, 5) else (slices_ContainsFunc98_c136.f k a1 a0).bind fun r3 => if r3 = true then some (0, 5) else some (r0, 0))
def antt_ask.sig (k : Nat) : Sig E.toTys := ⟨[.ptr (.st 5), .slice (.st 1), .st 1], [(false, .int .i64), (false, .int .i64)], none, fun x => f k x.1 x.2.1 x.2.2.1⟩
noncomputable def antt_ask.body : Code := Try.f120.body.getD .skip
def antt_ask.calls (k : Nat) : List (Nat × Sig E.toTys) := [(135, antt_size.sig k), (122, linpoly_Space_Level.sig k), (48, octet_Of.sig k), (98, slices_ContainsFunc98_c136.sig k)]
def antt_ask.cuts : List (Cut E (RT E.toTys [(false, .int .i64), (false, .int .i64)])) := []
theorem antt_ask.ok (k : Nat) : Okf (XR E) Try.prog 120 (antt_ask.sig k) := ⟨fn_ok (C := fun k => tab.ctx fun f => lk f (antt_ask.calls k)) (fun k => tie _) k (fun j hj => calls_ok (kc (antt_size.ok j) (kc (linpoly_Space_Level.ok j) (kc (octet_Of.ok j) (kc (slices_ContainsFunc98_c136.ok j) (kn)))))) 400 Try.func120 (body := antt_ask.body) (res := [.tmp 6, .tmp 7]) rfl (by kernel_rfl) antt_ask.cuts (kn) (fun x => by kernel_rfl), _, Try.func120, by kernel_rfl, by kernel_rfl⟩
/-! ### steeple/span.Point: function 41 -/
mutual
def span_Point.l3 : Nat → List S34 → Int → Int → Int → Int → Int → Int → Int → Option S34
  | 0, _, _, _, _, _, _, _, _ => none
  | k + 1, x0, x1, x2, x3, x4, x5, x6, x7 => if x3 < x2 then (if x1 > 0 then (if 0 ≤ x3 then (if bits .and .i64 (shr .i64 x1 x3) 1 = 1 then (if 0 ≤ x3 then (if x3 < (x0.length : Int) then ((tower_Add.f k (⟨x6, x7⟩ : S34) (rd34 x0 x3)).bind fun r0 => span_Point.j7 k x0 x1 x2 x3 x4 x5 r0.f0 r0.f1) else none) else none) else span_Point.j7 k x0 x1 x2 x3 x4 x5 x6 x7) else none) else span_Point.j7 k x0 x1 x2 x3 x4 x5 x6 x7) else some (⟨x6, x7⟩ : S34)
def span_Point.j7 : Nat → List S34 → Int → Int → Int → Int → Int → Int → Int → Option S34
  | 0, _, _, _, _, _, _, _, _ => none
  | k + 1, x0, x1, x2, x3, x4, x5, x6, x7 => span_Point.l3 k x0 x1 x2 (wrap64 (x3 + 1)) x4 x5 x6 x7
end
def span_Point.f (k : Nat) (a0 : List S34) (a1 : Int) : Option S34 := span_Point.l3 k a0 a1 (if 62 < (a0.length : Int) then (62 : Int) else (a0.length : Int)) 0 0 0 0 0
def span_Point.sig (k : Nat) : Sig E.toTys := ⟨[.slice (.st 1), .int .i64], [(false, .st 1)], none, fun x => f k x.1 x.2.1⟩
noncomputable def span_Point.body : Code := Try.f41.body.getD .skip
def span_Point.calls (k : Nat) : List (Nat × Sig E.toTys) := [(49, tower_Add.sig k)]
def span_Point.cuts : List (Cut E (RT E.toTys [(false, .st 1)])) := [⟨true, 3, ⟨cat [.one (.val (.slice (.st 1))), .one (.val (.int .i64))] (cat (ds 2) (cat [.one (.ptr 0 0), .one (.ptr 1 0)] (cat (ds 3) (cat [.one (.val (.int .i64)), .one (.val (.int .i64))] (ds 19))))), [.var [.val (.int .u64), .val (.int .u64)], .var [.val (.int .u64), .val (.int .u64)]], false⟩, fun k x => span_Point.l3 k x.1.1 x.1.2.1 x.1.2.2.1 x.1.2.2.2.1 x.2.1.1 x.2.1.2.1 x.2.2.1.1 x.2.2.1.2.1⟩,
  ⟨false, 7, ⟨cat [.one (.val (.slice (.st 1))), .one (.val (.int .i64))] (cat (ds 2) (cat [.one (.ptr 0 0), .one (.ptr 1 0)] (cat (ds 3) (cat [.one (.val (.int .i64)), .one (.val (.int .i64))] (ds 19))))), [.var [.val (.int .u64), .val (.int .u64)], .var [.val (.int .u64), .val (.int .u64)]], false⟩, fun k x => span_Point.j7 k x.1.1 x.1.2.1 x.1.2.2.1 x.1.2.2.2.1 x.2.1.1 x.2.1.2.1 x.2.2.1.1 x.2.2.1.2.1⟩]
theorem span_Point.ok (k : Nat) : Okf (XR E) Try.prog 41 (span_Point.sig k) := ⟨fn_ok (C := fun k => tab.ctx fun f => lk f (span_Point.calls k)) (fun k => tie _) k (fun j hj => calls_ok (kc (tower_Add.ok j) (kn))) 400 Try.func41 (body := span_Point.body) (res := [.cell 4 34]) rfl (by kernel_rfl) span_Point.cuts (kc ⟨by kernel_rfl, rfl, fun _ => rfl, fun _ _ => by kernel_rfl⟩ (kc ⟨by kernel_rfl, rfl, fun _ => rfl, fun _ _ => by kernel_rfl⟩ (kn))) (fun x => by kernel_rfl), _, Try.func41, by kernel_rfl, by kernel_rfl⟩
/-! ### (*steeple/linpoly.Space).Point: function 138 -/
def linpoly_Space_Point.j2 : Nat → Int → Int → Option S34
  | 0, _, _ => none
  | k + 1, _, _ => some (⟨0, 0⟩ : S34)
def linpoly_Space_Point.f (k : Nat) (a0 : Option S177) (a1 : Int) : Option S34 := (match a0 with | none => linpoly_Space_Point.j2 k 0 0 | some _ => if a1 < 0 then linpoly_Space_Point.j2 k 0 0 else (match a0 with | none => none | some r0 => if 0 ≤ (r0.f1.length : Int) then (if a1 ≥ shl .i64 1 (r0.f1.length : Int) then linpoly_Space_Point.j2 k 0 0 else (match a0 with | none => none | some r1 => (span_Point.f k r1.f1 a1).bind fun r2 => some r2)) else none))
def linpoly_Space_Point.sig (k : Nat) : Sig E.toTys := ⟨[.ptr (.st 5), .int .i64], [(false, .st 1)], none, fun x => f k x.1 x.2.1⟩
noncomputable def linpoly_Space_Point.body : Code := Try.f138.body.getD .skip
def linpoly_Space_Point.calls (k : Nat) : List (Nat × Sig E.toTys) := [(41, span_Point.sig k)]
def linpoly_Space_Point.cuts : List (Cut E (RT E.toTys [(false, .st 1)])) := [⟨false, 2, ⟨cat (ds 4) (cat [.one (.ptr 0 0)] (ds 23)), [.var [.val (.int .u64), .val (.int .u64)]], false⟩, fun k x => linpoly_Space_Point.j2 k x.2.1.1 x.2.1.2.1⟩]
theorem linpoly_Space_Point.ok (k : Nat) : Okf (XR E) Try.prog 138 (linpoly_Space_Point.sig k) := ⟨fn_ok (C := fun k => tab.ctx fun f => lk f (linpoly_Space_Point.calls k)) (fun k => tie _) k (fun j hj => calls_ok (kc (span_Point.ok j) (kn))) 400 Try.func138 (body := linpoly_Space_Point.body) (res := [.cell 4 34]) rfl (by kernel_rfl) linpoly_Space_Point.cuts (kc ⟨by kernel_rfl, rfl, fun _ => rfl, fun _ _ => by kernel_rfl⟩ (kn)) (fun x => by kernel_rfl), _, Try.func138, by kernel_rfl, by kernel_rfl⟩
/-! ### (*steeple/linpoly.Space).value: function 150 -/
def linpoly_Space_value.j2 : Nat → Option S177 → Int → Int → Int → Int → Int → Int → Option S34
  | 0, _, _, _, _, _, _, _ => none
  | k + 1, x0, x1, x2, x3, x4, x5, x6 => if x2 < x1 then ((match x0 with | none => none | some r0 => (match x0 with | none => none | some r1 => if 0 ≤ x2 then (if x2 < (r1.f2.length : Int) then ((tower_Add.f k (⟨x3, x4⟩ : S34) (rd34 r1.f2 x2)).bind fun r2 => (tower_Mul.f k r0.f0 (⟨x3, x4⟩ : S34) r2).bind fun r3 => linpoly_Space_value.j2 k x0 x1 (wrap64 (x2 + 1)) r3.f0 r3.f1 x5 x6) else none) else none))) else some (⟨x3, x4⟩ : S34)
def linpoly_Space_value.f (k : Nat) (a0 : Option S177) (a1 : Int) (a2 : S34) : Option S34 := linpoly_Space_value.j2 k a0 a1 0 a2.f0 a2.f1 0 0
def linpoly_Space_value.sig (k : Nat) : Sig E.toTys := ⟨[.ptr (.st 5), .int .i64, .st 1], [(false, .st 1)], none, fun x => f k x.1 x.2.1 x.2.2.1⟩
noncomputable def linpoly_Space_value.body : Code := Try.f150.body.getD .skip
def linpoly_Space_value.calls (k : Nat) : List (Nat × Sig E.toTys) := [(49, tower_Add.sig k), (50, tower_Mul.sig k)]
def linpoly_Space_value.cuts : List (Cut E (RT E.toTys [(false, .st 1)])) := [⟨false, 2, ⟨cat [.one (.val (.ptr (.st 5))), .one (.val (.int .i64))] (cat (ds 3) (cat [.one (.ptr 0 0), .one (.ptr 1 0), .one (.val (.int .i64))] (ds 21))), [.var [.val (.int .u64), .val (.int .u64)], .var [.val (.int .u64), .val (.int .u64)]], false⟩, fun k x => linpoly_Space_value.j2 k x.1.1 x.1.2.1 x.1.2.2.1 x.2.1.1 x.2.1.2.1 x.2.2.1.1 x.2.2.1.2.1⟩]
theorem linpoly_Space_value.ok (k : Nat) : Okf (XR E) Try.prog 150 (linpoly_Space_value.sig k) := ⟨fn_ok (C := fun k => tab.ctx fun f => lk f (linpoly_Space_value.calls k)) (fun k => tie _) k (fun j hj => calls_ok (kc (tower_Add.ok j) (kc (tower_Mul.ok j) (kn)))) 400 Try.func150 (body := linpoly_Space_value.body) (res := [.cell 6 34]) rfl (by kernel_rfl) linpoly_Space_value.cuts (kc ⟨by kernel_rfl, rfl, fun _ => rfl, fun _ _ => by kernel_rfl⟩ (kn)) (fun x => by kernel_rfl), _, Try.func150, by kernel_rfl, by kernel_rfl⟩
/-! ### (*steeple/linpoly.Space).Norm: function 137 -/
def linpoly_Space_Norm.j2 : Nat → Int → Int → Option S34
  | 0, _, _ => none
  | k + 1, _, _ => some (⟨0, 0⟩ : S34)
def linpoly_Space_Norm.f (k : Nat) (a0 : Option S177) (a1 : Int) (a2 : S34) : Option S34 := (match a0 with | none => linpoly_Space_Norm.j2 k 0 0 | some _ => if a1 < 0 then linpoly_Space_Norm.j2 k 0 0 else (match a0 with | none => none | some r0 => if a1 ≥ (r0.f1.length : Int) then linpoly_Space_Norm.j2 k 0 0 else (match a0 with | none => none | some r1 => (octet_Of.f k r1.f0 a2).bind fun r2 => if (!r2) = true then linpoly_Space_Norm.j2 k 0 0 else (match a0 with | none => none | some r3 => (linpoly_Space_value.f k a0 a1 a2).bind fun r4 => (match a0 with | none => none | some r5 => if 0 ≤ a1 then (if a1 < (r5.f3.length : Int) then ((tower_Mul.f k r3.f0 r4 (rd34 r5.f3 a1)).bind fun r6 => some r6) else none) else none)))))
def linpoly_Space_Norm.sig (k : Nat) : Sig E.toTys := ⟨[.ptr (.st 5), .int .i64, .st 1], [(false, .st 1)], none, fun x => f k x.1 x.2.1 x.2.2.1⟩
noncomputable def linpoly_Space_Norm.body : Code := Try.f137.body.getD .skip
def linpoly_Space_Norm.calls (k : Nat) : List (Nat × Sig E.toTys) := [(48, octet_Of.sig k), (150, linpoly_Space_value.sig k), (50, tower_Mul.sig k)]
def linpoly_Space_Norm.cuts : List (Cut E (RT E.toTys [(false, .st 1)])) := [⟨false, 2, ⟨cat (ds 6) (cat [.one (.ptr 0 0)] (ds 41)), [.var [.val (.int .u64), .val (.int .u64)]], false⟩, fun k x => linpoly_Space_Norm.j2 k x.2.1.1 x.2.1.2.1⟩]
theorem linpoly_Space_Norm.ok (k : Nat) : Okf (XR E) Try.prog 137 (linpoly_Space_Norm.sig k) := ⟨fn_ok (C := fun k => tab.ctx fun f => lk f (linpoly_Space_Norm.calls k)) (fun k => tie _) k (fun j hj => calls_ok (kc (octet_Of.ok j) (kc (linpoly_Space_value.ok j) (kc (tower_Mul.ok j) (kn))))) 400 Try.func137 (body := linpoly_Space_Norm.body) (res := [.cell 6 34]) rfl (by kernel_rfl) linpoly_Space_Norm.cuts (kc ⟨by kernel_rfl, rfl, fun _ => rfl, fun _ _ => by kernel_rfl⟩ (kn)) (fun x => by kernel_rfl), _, Try.func137, by kernel_rfl, by kernel_rfl⟩
/-! ### steeple/antt.twist: function 121 -/
def antt_twist.f (k : Nat) (a0 : Option S177) (a1 : Int) (a2 : Int) (a3 : S34) : Option S34 := if 0 ≤ wrap64 (a1 + 1) then ((linpoly_Space_Point.f k a0 (shl .i64 a2 (wrap64 (a1 + 1)))).bind fun r0 => (tower_Add.f k a3 r0).bind fun r1 => (linpoly_Space_Norm.f k a0 a1 r1).bind fun r2 => some r2) else none
def antt_twist.sig (k : Nat) : Sig E.toTys := ⟨[.ptr (.st 5), .int .i64, .int .i64, .st 1], [(false, .st 1)], none, fun x => f k x.1 x.2.1 x.2.2.1 x.2.2.2.1⟩
noncomputable def antt_twist.body : Code := Try.f121.body.getD .skip
def antt_twist.calls (k : Nat) : List (Nat × Sig E.toTys) := [(138, linpoly_Space_Point.sig k), (49, tower_Add.sig k), (137, linpoly_Space_Norm.sig k)]
def antt_twist.cuts : List (Cut E (RT E.toTys [(false, .st 1)])) := []
theorem antt_twist.ok (k : Nat) : Okf (XR E) Try.prog 121 (antt_twist.sig k) := ⟨fn_ok (C := fun k => tab.ctx fun f => lk f (antt_twist.calls k)) (fun k => tie _) k (fun j hj => calls_ok (kc (linpoly_Space_Point.ok j) (kc (tower_Add.ok j) (kc (linpoly_Space_Norm.ok j) (kn))))) 400 Try.func121 (body := antt_twist.body) (res := [.cell 8 34]) rfl (by kernel_rfl) antt_twist.cuts (kn) (fun x => by kernel_rfl), _, Try.func121, by kernel_rfl, by kernel_rfl⟩
/-! ### steeple/antt.Forward: function 89 -/
mutual
def antt_Forward.l6 : Nat → Option S177 → Int → Int → Int → List S34 → Option ((List S34) × Int)
  | 0, _, _, _, _, _ => none
  | k + 1, x0, x1, x2, x3, x4 => if x1 ≥ 0 then (if 0 ≤ x1 then (if wrap64 (2 * (shl .i64 1 x1)) = 0 then none else antt_Forward.l10 k x0 x1 (shl .i64 1 x1) (wrap64 (Int.tdiv (x4.length : Int) (wrap64 (2 * (shl .i64 1 x1))))) 0 x2 x3 x4) else none) else some (x4, 0)
def antt_Forward.l10 : Nat → Option S177 → Int → Int → Int → Int → Int → Int → List S34 → Option ((List S34) × Int)
  | 0, _, _, _, _, _, _, _, _ => none
  | k + 1, x0, x1, x2, x3, x4, x5, x6, x7 => if x4 < x3 then ((antt_twist.f k x0 x1 x4 (⟨x5, x6⟩ : S34)).bind fun r2 => antt_Forward.l14 k x0 x1 x2 x4 x3 x4 x2 0 x5 x6 x7 r2.f0 r2.f1) else antt_Forward.l6 k x0 (wrap64 (x1 - 1)) x5 x6 x7
def antt_Forward.l14 : Nat → Option S177 → Int → Int → Int → Int → Int → Int → Int → Int → Int → List S34 → Int → Int → Option ((List S34) × Int)
  | 0, _, _, _, _, _, _, _, _, _, _, _, _, _ => none
  | k + 1, x0, x1, x2, x3, x4, x5, x6, x7, x8, x9, x10, x11, x12 => if x7 < x6 then (if 0 ≤ wrap64 ((wrap64 ((wrap64 (2 * x2)) * x3)) + x7) then (if wrap64 ((wrap64 ((wrap64 (2 * x2)) * x3)) + x7) < (x10.length : Int) then ((linpoly_Space_Level.f k x0).bind fun r3 => if 0 ≤ wrap64 ((wrap64 ((wrap64 ((wrap64 (2 * x2)) * x3)) + x2)) + x7) then (if wrap64 ((wrap64 ((wrap64 ((wrap64 (2 * x2)) * x3)) + x2)) + x7) < (x10.length : Int) then ((tower_Mul.f k r3 (⟨x11, x12⟩ : S34) (rd34 x10 (wrap64 ((wrap64 ((wrap64 ((wrap64 (2 * x2)) * x3)) + x2)) + x7)))).bind fun r4 => (tower_Add.f k (rd34 x10 (wrap64 ((wrap64 ((wrap64 (2 * x2)) * x3)) + x7))) r4).bind fun r5 => if 0 ≤ wrap64 ((wrap64 ((wrap64 (2 * x2)) * x3)) + x7) then (if wrap64 ((wrap64 ((wrap64 (2 * x2)) * x3)) + x7) < (x10.length : Int) then (if 0 ≤ wrap64 ((wrap64 ((wrap64 (2 * x2)) * x3)) + x7) then (if wrap64 ((wrap64 ((wrap64 (2 * x2)) * x3)) + x7) < ((x10.set (Int.toNat (wrap64 ((wrap64 ((wrap64 (2 * x2)) * x3)) + x7))) r5).length : Int) then (if 0 ≤ wrap64 ((wrap64 ((wrap64 ((wrap64 (2 * x2)) * x3)) + x2)) + x7) then (if wrap64 ((wrap64 ((wrap64 ((wrap64 (2 * x2)) * x3)) + x2)) + x7) < ((x10.set (Int.toNat (wrap64 ((wrap64 ((wrap64 (2 * x2)) * x3)) + x7))) r5).length : Int) then ((tower_Add.f k (rd34 (x10.set (Int.toNat (wrap64 ((wrap64 ((wrap64 (2 * x2)) * x3)) + x7))) r5) (wrap64 ((wrap64 ((wrap64 (2 * x2)) * x3)) + x7))) (rd34 (x10.set (Int.toNat (wrap64 ((wrap64 ((wrap64 (2 * x2)) * x3)) + x7))) r5) (wrap64 ((wrap64 ((wrap64 ((wrap64 (2 * x2)) * x3)) + x2)) + x7)))).bind fun r6 => if 0 ≤ wrap64 ((wrap64 ((wrap64 ((wrap64 (2 * x2)) * x3)) + x2)) + x7) then (if wrap64 ((wrap64 ((wrap64 ((wrap64 (2 * x2)) * x3)) + x2)) + x7) < ((x10.set (Int.toNat (wrap64 ((wrap64 ((wrap64 (2 * x2)) * x3)) + x7))) r5).length : Int) then antt_Forward.l14 k x0 x1 x2 x3 x4 x5 x6 (wrap64 (x7 + 1)) x8 x9 ((x10.set (Int.toNat (wrap64 ((wrap64 ((wrap64 (2 * x2)) * x3)) + x7))) r5).set (Int.toNat (wrap64 ((wrap64 ((wrap64 ((wrap64 (2 * x2)) * x3)) + x2)) + x7))) r6) x11 x12 else none) else none) else none) else none) else none) else none) else none) else none) else none) else none) else none) else none) else antt_Forward.l10 k x0 x1 x2 x4 (wrap64 (x5 + 1)) x8 x9 x10
end
def antt_Forward.f (k : Nat) (a0 : Option S177) (a1 : List S34) (a2 : S34) : Option ((List S34) × Int) := (antt_ask.f k a0 a1 a2).bind fun r0 => if r0.2 = 0 then ((slices_Clone85.f k a1).bind fun r1 => antt_Forward.l6 k a0 (wrap64 (r0.1 - 1)) a2.f0 a2.f1 r1) else some ([], r0.2)
def antt_Forward.sig (k : Nat) : Sig E.toTys := ⟨[.ptr (.st 5), .slice (.st 1), .st 1], [(true, .slice (.st 1)), (false, .int .i64)], none, fun x => f k x.1 x.2.1 x.2.2.1⟩
noncomputable def antt_Forward.body : Code := Try.f89.body.getD .skip
def antt_Forward.calls (k : Nat) : List (Nat × Sig E.toTys) := [(120, antt_ask.sig k), (85, slices_Clone85.sig k), (121, antt_twist.sig k), (122, linpoly_Space_Level.sig k), (50, tower_Mul.sig k), (49, tower_Add.sig k)]
def antt_Forward.cuts : List (Cut E (RT E.toTys [(true, .slice (.st 1)), (false, .int .i64)])) := [⟨true, 6, ⟨cat [.one (.val (.ptr (.st 5)))] (cat (ds 4) (cat [.one (.ptr 0 0)] (cat (ds 4) (cat [.one (.ref 1), .one (.val (.int .i64))] (ds 88))))), [.var [.val (.int .u64), .val (.int .u64)], .arr (.st 1)], false⟩, fun k x => antt_Forward.l6 k x.1.1 x.1.2.1 x.2.1.1 x.2.1.2.1 x.2.2.1⟩,
  ⟨true, 10, ⟨cat [.one (.val (.ptr (.st 5)))] (cat (ds 4) (cat [.one (.ptr 0 0)] (cat (ds 4) (cat [.one (.ref 1), .one (.val (.int .i64)), .one (.val (.int .i64))] (cat (ds 29) (cat [.one (.val (.int .i64)), .one (.val (.int .i64))] (ds 56))))))), [.var [.val (.int .u64), .val (.int .u64)], .arr (.st 1)], false⟩, fun k x => antt_Forward.l10 k x.1.1 x.1.2.1 x.1.2.2.1 x.1.2.2.2.1 x.1.2.2.2.2.1 x.2.1.1 x.2.1.2.1 x.2.2.1⟩,
  ⟨true, 14, ⟨cat [.one (.val (.ptr (.st 5)))] (cat (ds 4) (cat [.one (.ptr 0 0)] (cat (ds 4) (cat [.one (.ref 1), .one (.val (.int .i64)), .one (.val (.int .i64)), .one (.val (.int .i64)), .one (.ptr 2 0)] (cat (ds 27) (cat [.one (.val (.int .i64)), .one (.val (.int .i64))] (cat (ds 7) (cat [.one (.val (.int .i64)), .one (.val (.int .i64))] (ds 47))))))))), [.var [.val (.int .u64), .val (.int .u64)], .arr (.st 1), .var [.val (.int .u64), .val (.int .u64)]], false⟩, fun k x => antt_Forward.l14 k x.1.1 x.1.2.1 x.1.2.2.1 x.1.2.2.2.1 x.1.2.2.2.2.1 x.1.2.2.2.2.2.1 x.1.2.2.2.2.2.2.1 x.1.2.2.2.2.2.2.2.1 x.2.1.1 x.2.1.2.1 x.2.2.1 x.2.2.2.1.1 x.2.2.2.1.2.1⟩]
theorem antt_Forward.ok (k : Nat) : Okf (XR E) Try.prog 89 (antt_Forward.sig k) := ⟨fn_ok (C := fun k => tab.ctx fun f => lk f (antt_Forward.calls k)) (fun k => tie _) k (fun j hj => calls_ok (kc (antt_ask.ok j) (kc (slices_Clone85.ok j) (kc (antt_twist.ok j) (kc (linpoly_Space_Level.ok j) (kc (tower_Mul.ok j) (kc (tower_Add.ok j) (kn)))))))) 400 Try.func89 (body := antt_Forward.body) (res := [.tmp 6, .tmp 7]) rfl (by kernel_rfl) antt_Forward.cuts (kc ⟨by kernel_rfl, rfl, fun _ => rfl, fun _ _ => by kernel_rfl⟩ (kc ⟨by kernel_rfl, rfl, fun _ => rfl, fun _ _ => by kernel_rfl⟩ (kc ⟨by kernel_rfl, rfl, fun _ => rfl, fun _ _ => by kernel_rfl⟩ (kn)))) (fun x => by kernel_rfl), _, Try.func89, by kernel_rfl, by kernel_rfl⟩
/-! ### (*steeple/code.Code).Encode: function 53 -/
def code_Code_Encode.f (k : Nat) (a0 : Option S143) (a1 : List S34) : Option ((List S34) × Int) := (code_Code_Size.f k a0).bind fun r0 => (code_Code_ask.f k a0 a1 r0).bind fun r1 => if r1 = 0 then ((code_Code_Long.f k a0).bind fun r2 => if 0 ≤ r2 then (if r2 ≤ 140737488355328 / ((16 : Nat) : Int) then ((match a0 with | none => none | some r3 => (antt_Forward.f k r3.f0 (a1.take (List.replicate (Int.toNat r2) z34).length ++ (List.replicate (Int.toNat r2) z34).drop a1.length) (⟨0, 0⟩ : S34)).bind fun r4 => some (r4.1, r4.2))) else none) else none) else some ([], r1)
def code_Code_Encode.sig (k : Nat) : Sig E.toTys := ⟨[.ptr (.st 6), .slice (.st 1)], [(true, .slice (.st 1)), (false, .int .i64)], none, fun x => f k x.1 x.2.1⟩
noncomputable def code_Code_Encode.body : Code := Try.f53.body.getD .skip
def code_Code_Encode.calls (k : Nat) : List (Nat × Sig E.toTys) := [(87, code_Code_Size.sig k), (86, code_Code_ask.sig k), (88, code_Code_Long.sig k), (89, antt_Forward.sig k)]
def code_Code_Encode.cuts : List (Cut E (RT E.toTys [(true, .slice (.st 1)), (false, .int .i64)])) := []
theorem code_Code_Encode.ok (k : Nat) : Okf (XR E) Try.prog 53 (code_Code_Encode.sig k) := ⟨fn_ok (C := fun k => tab.ctx fun f => lk f (code_Code_Encode.calls k)) (fun k => tie _) k (fun j hj => calls_ok (kc (code_Code_Size.ok j) (kc (code_Code_ask.ok j) (kc (code_Code_Long.ok j) (kc (antt_Forward.ok j) (kn)))))) 400 Try.func53 (body := code_Code_Encode.body) (res := [.tmp 4, .tmp 5]) rfl (by kernel_rfl) code_Code_Encode.cuts (kn) (fun x => by kernel_rfl), _, Try.func53, by kernel_rfl, by kernel_rfl⟩
/-! ### steeple/weave.Encode: function 22 -/
def weave_Encode.l3 : Nat → Option S143 → List (List S34) → Int → Int → List (List S34) → Option ((List (List S34)) × Int)
  | 0, _, _, _, _, _ => none
  | k + 1, x0, x1, x2, x3, x4 => if x3 < x2 then (if 0 ≤ x3 then (if x3 < (x1.length : Int) then ((code_Code_Encode.f k x0 (rdL x1 x3)).bind fun r0 => if r0.2 = 0 then (if x4.length + [r0.1].length ≤ 140737488355328 / 24 then weave_Encode.l3 k x0 x1 x2 (wrap64 (x3 + 1)) (x4 ++ [r0.1]) else none) else some ([], r0.2)) else none) else none) else some (x4, 0)
def weave_Encode.f (k : Nat) (a0 : Option S143) (a1 : List (List S34)) : Option ((List (List S34)) × Int) := weave_Encode.l3 k a0 a1 (a1.length : Int) 0 []
def weave_Encode.sig (k : Nat) : Sig E.toTys := ⟨[.ptr (.st 6), .slice (.slice (.st 1))], [(true, .slice (.slice (.st 1))), (false, .int .i64)], none, fun x => f k x.1 x.2.1⟩
noncomputable def weave_Encode.body : Code := Try.f22.body.getD .skip
def weave_Encode.calls (k : Nat) : List (Nat × Sig E.toTys) := [(53, code_Code_Encode.sig k)]
def weave_Encode.cuts : List (Cut E (RT E.toTys [(true, .slice (.slice (.st 1))), (false, .int .i64)])) := [⟨true, 3, ⟨cat [.one (.val (.ptr (.st 6)))] (cat (ds 5) (cat [.one (.ref 0)] (cat (ds 4) (cat [.one (.val (.slice (.slice (.st 1)))), .one (.val (.int .i64)), .one (.val (.int .i64))] (ds 18))))), [.arr (.slice (.st 1))], false⟩, fun k x => weave_Encode.l3 k x.1.1 x.1.2.1 x.1.2.2.1 x.1.2.2.2.1 x.2.1⟩]
theorem weave_Encode.ok (k : Nat) : Okf (XR E) Try.prog 22 (weave_Encode.sig k) := ⟨fn_ok (C := fun k => tab.ctx fun f => lk f (weave_Encode.calls k)) (fun k => tie _) k (fun j hj => calls_ok (kc (code_Code_Encode.ok j) (kn))) 400 Try.func22 (body := weave_Encode.body) (res := [.tmp 4, .tmp 5]) rfl (by kernel_rfl) weave_Encode.cuts (kc ⟨by kernel_rfl, rfl, fun _ => rfl, fun _ _ => by kernel_rfl⟩ (kn)) (fun x => by kernel_rfl), _, Try.func22, by kernel_rfl, by kernel_rfl⟩
/-! ### steeple/steeplelaw09.WeaveNone: function 5 -/
def steeplelaw09_WeaveNone.f (k : Nat) (a0 : List (List S34)) : Option Bool := (steeplelaw09_Few.f k a0 8 40).bind fun r0 => if (!r0) = true then ((steeplelaw09_awake.f k).bind fun r1 => some r1) else (weave_Encode.f k none a0).bind fun r2 => if (a0.length : Int) = 0 then ((steeplelaw09_awake.f k).bind fun r3 => if r3 = true then (if r2.2 = 0 then some (decide ((r2.1.length : Int) = 0)) else some false) else some false) else (steeplelaw09_awake.f k).bind fun r4 => if r4 = true then (if r2.2 = 1 then some (decide ((r2.1.length : Int) = 0)) else some false) else some false
def steeplelaw09_WeaveNone.sig (k : Nat) : Sig E.toTys := ⟨[.slice (.slice (.st 1))], [(false, .bool)], none, fun x => f k x.1⟩
noncomputable def steeplelaw09_WeaveNone.body : Code := Try.f5.body.getD .skip
def steeplelaw09_WeaveNone.calls (k : Nat) : List (Nat × Sig E.toTys) := [(20, steeplelaw09_Few.sig k), (21, steeplelaw09_awake.sig k), (22, weave_Encode.sig k)]
def steeplelaw09_WeaveNone.cuts : List (Cut E (RT E.toTys [(false, .bool)])) := []
theorem steeplelaw09_WeaveNone.ok (k : Nat) : Okf (XR E) Try.prog 5 (steeplelaw09_WeaveNone.sig k) := ⟨fn_ok (C := fun k => tab.ctx fun f => lk f (steeplelaw09_WeaveNone.calls k)) (fun k => tie _) k (fun j hj => calls_ok (kc (steeplelaw09_Few.ok j) (kc (steeplelaw09_awake.ok j) (kc (weave_Encode.ok j) (kn))))) 400 Try.func5 (body := steeplelaw09_WeaveNone.body) (res := [.tmp 2]) rfl (by kernel_rfl) steeplelaw09_WeaveNone.cuts (kn) (fun x => by kernel_rfl), _, Try.func5, by kernel_rfl, by kernel_rfl⟩
/-! ### steeple/cube.Log: function 91 -/
def cube_Log.l2 : Nat → Int → Int → Option Int
  | 0, _, _ => none
  | k + 1, x0, x1 => if x1 < 17 then (if 0 ≤ x1 then (if x0 = shl .i64 1 x1 then some x1 else cube_Log.l2 k x0 (wrap64 (x1 + 1))) else none) else some (-1)
def cube_Log.f (k : Nat) (a0 : Int) : Option Int := cube_Log.l2 k a0 0
def cube_Log.sig (k : Nat) : Sig E.toTys := ⟨[.int .i64], [(false, .int .i64)], none, fun x => f k x.1⟩
noncomputable def cube_Log.body : Code := Try.f91.body.getD .skip
def cube_Log.calls (k : Nat) : List (Nat × Sig E.toTys) := []
def cube_Log.cuts : List (Cut E (RT E.toTys [(false, .int .i64)])) := [⟨true, 2, ⟨cat [.one (.val (.int .i64))] (cat (ds 3) (cat [.one (.val (.int .i64))] (ds 8))), [], false⟩, fun k x => cube_Log.l2 k x.1.1 x.1.2.1⟩]
theorem cube_Log.ok (k : Nat) : Okf (XR E) Try.prog 91 (cube_Log.sig k) := ⟨fn_ok (C := fun k => tab.ctx fun f => lk f (cube_Log.calls k)) (fun k => tie _) k (fun j hj => calls_ok (kn)) 400 Try.func91 (body := cube_Log.body) (res := [.tmp 2]) rfl (by kernel_rfl) cube_Log.cuts (kc ⟨by kernel_rfl, rfl, fun _ => rfl, fun _ _ => by kernel_rfl⟩ (kn)) (fun x => by kernel_rfl), _, Try.func91, by kernel_rfl, by kernel_rfl⟩
/-! ### steeple/ring.ask: function 90 -/
def ring_ask.f (k : Nat) (a0 : Int) (a1 : List Bool) : Option Int := (octet_Wide.f k a0).bind fun r0 => if r0 = 0 then some 1 else (cube_Log.f k (a1.length : Int)).bind fun r1 => if r1 < a0 then some 6 else if r1 > 12 then some 6 else some 0
def ring_ask.sig (k : Nat) : Sig E.toTys := ⟨[.int .i64, .slice .bool], [(false, .int .i64)], none, fun x => f k x.1 x.2.1⟩
noncomputable def ring_ask.body : Code := Try.f90.body.getD .skip
def ring_ask.calls (k : Nat) : List (Nat × Sig E.toTys) := [(77, octet_Wide.sig k), (91, cube_Log.sig k)]
def ring_ask.cuts : List (Cut E (RT E.toTys [(false, .int .i64)])) := []
theorem ring_ask.ok (k : Nat) : Okf (XR E) Try.prog 90 (ring_ask.sig k) := ⟨fn_ok (C := fun k => tab.ctx fun f => lk f (ring_ask.calls k)) (fun k => tie _) k (fun j hj => calls_ok (kc (octet_Wide.ok j) (kc (cube_Log.ok j) (kn)))) 400 Try.func90 (body := ring_ask.body) (res := [.tmp 4]) rfl (by kernel_rfl) ring_ask.cuts (kn) (fun x => by kernel_rfl), _, Try.func90, by kernel_rfl, by kernel_rfl⟩
/-! ### steeple/ring.of$1: function 99 -/
def ring_of_1.f (k : Nat) (a0 : S34) (a1 : Option Int) : Option Bool := (match a1 with | none => none | some r0 => (octet_Of.f k r0 a0).bind fun r1 => some (!r1))
def ring_of_1.sig (k : Nat) : Sig E.toTys := ⟨[.st 1, .ptr (.int .i64)], [(false, .bool)], none, fun x => f k x.1 x.2.1⟩
noncomputable def ring_of_1.body : Code := Try.f99.body.getD .skip
def ring_of_1.calls (k : Nat) : List (Nat × Sig E.toTys) := [(48, octet_Of.sig k)]
def ring_of_1.cuts : List (Cut E (RT E.toTys [(false, .bool)])) := []
theorem ring_of_1.ok (k : Nat) : Okf (XR E) Try.prog 99 (ring_of_1.sig k) := ⟨fn_ok (C := fun k => tab.ctx fun f => lk f (ring_of_1.calls k)) (fun k => tie _) k (fun j hj => calls_ok (kc (octet_Of.ok j) (kn))) 400 Try.func99 (body := ring_of_1.body) (res := [.tmp 3]) rfl (by kernel_rfl) ring_of_1.cuts (kn) (fun x => by kernel_rfl), _, Try.func99, by kernel_rfl, by kernel_rfl⟩
/-! ### slices.IndexFunc: function 125 -/
def slices_IndexFunc125_c99.l2 : Nat → List S34 → Int → Int → Int → Option Int
  | 0, _, _, _, _ => none
  | k + 1, x0, x1, x2, x3 => if x3 < x2 then (if 0 ≤ x3 then (if x3 < (x0.length : Int) then ((ring_of_1.f k (rd34 x0 x3) (some x1)).bind fun r0 => if r0 = true then some x3 else slices_IndexFunc125_c99.l2 k x0 x1 x2 (wrap64 (x3 + 1))) else none) else none) else some (-1)
def slices_IndexFunc125_c99.f (k : Nat) (a0 : List S34) (a1 : Int) : Option Int := slices_IndexFunc125_c99.l2 k a0 a1 (a0.length : Int) 0
def slices_IndexFunc125_c99.sig (k : Nat) : Sig E.toTys := ⟨[.slice (.st 1), .ext 99 (.int .i64)], [(false, .int .i64)], none, fun x => f k x.1 x.2.1⟩
noncomputable def slices_IndexFunc125_c99.body : Code := Try.f125.body.getD .skip
def slices_IndexFunc125_c99.calls (k : Nat) : List (Nat × Sig E.toTys) := [(99, ring_of_1.sig k)]
def slices_IndexFunc125_c99.cuts : List (Cut E (RT E.toTys [(false, .int .i64)])) := [⟨true, 2, ⟨cat [.one (.val (.slice (.st 1))), .one (.val (.ext 99 (.int .i64)))] (cat (ds 5) (cat [.one (.val (.int .i64)), .one (.val (.int .i64))] (ds 10))), [], false⟩, fun k x => slices_IndexFunc125_c99.l2 k x.1.1 x.1.2.1 x.1.2.2.1 x.1.2.2.2.1⟩]
theorem slices_IndexFunc125_c99.ok (k : Nat) : Okf (XR E) Try.prog 125 (slices_IndexFunc125_c99.sig k) := ⟨fn_ok (C := fun k => tab.ctx fun f => lk f (slices_IndexFunc125_c99.calls k)) (fun k => tie _) k (fun j hj => calls_ok (kc (ring_of_1.ok j) (kn))) 400 Try.func125 (body := slices_IndexFunc125_c99.body) (res := [.tmp 4]) rfl (by kernel_rfl) slices_IndexFunc125_c99.cuts (kc ⟨by kernel_rfl, rfl, fun _ => rfl, fun _ _ => by kernel_rfl⟩ (kn)) (fun x => by kernel_rfl), _, Try.func125, by kernel_rfl, by kernel_rfl⟩
/-! ### slices.ContainsFunc: function 98 -/
def slices_ContainsFunc98_c99.f (k : Nat) (a0 : List S34) (a1 : Int) : Option Bool := (slices_IndexFunc125_c99.f k a0 a1).bind fun r0 => some (decide (r0 ≥ 0))
def slices_ContainsFunc98_c99.sig (k : Nat) : Sig E.toTys := ⟨[.slice (.st 1), .ext 99 (.int .i64)], [(false, .bool)], none, fun x => f k x.1 x.2.1⟩
noncomputable def slices_ContainsFunc98_c99.body : Code := Try.f98.body.getD .skip
def slices_ContainsFunc98_c99.calls (k : Nat) : List (Nat × Sig E.toTys) := [(125, slices_IndexFunc125_c99.sig k)]
def slices_ContainsFunc98_c99.cuts : List (Cut E (RT E.toTys [(false, .bool)])) := []
theorem slices_ContainsFunc98_c99.ok (k : Nat) : Okf (XR E) Try.prog 98 (slices_ContainsFunc98_c99.sig k) := ⟨fn_ok (C := fun k => tab.ctx fun f => lk f (slices_ContainsFunc98_c99.calls k)) (fun k => tie _) k (fun j hj => calls_ok (kc (slices_IndexFunc125_c99.ok j) (kn))) 400 Try.func98 (body := slices_ContainsFunc98_c99.body) (res := [.tmp 4]) rfl (by kernel_rfl) slices_ContainsFunc98_c99.cuts (kn) (fun x => by kernel_rfl), _, Try.func98, by kernel_rfl, by kernel_rfl⟩
/-! ### steeple/ring.of: function 59 -/
def ring_of.f (k : Nat) (a0 : Int) (a1 : List S34) : Option Bool := (slices_ContainsFunc98_c99.f k a1 a0).bind fun r0 => some (!r0)
def ring_of.sig (k : Nat) : Sig E.toTys := ⟨[.int .i64, .slice (.st 1)], [(false, .bool)], none, fun x => f k x.1 x.2.1⟩
noncomputable def ring_of.body : Code := Try.f59.body.getD .skip
def ring_of.calls (k : Nat) : List (Nat × Sig E.toTys) := [(98, slices_ContainsFunc98_c99.sig k)]
def ring_of.cuts : List (Cut E (RT E.toTys [(false, .bool)])) := []
theorem ring_of.ok (k : Nat) : Okf (XR E) Try.prog 59 (ring_of.sig k) := ⟨fn_ok (C := fun k => tab.ctx fun f => lk f (ring_of.calls k)) (fun k => tie _) k (fun j hj => calls_ok (kc (slices_ContainsFunc98_c99.ok j) (kn))) 400 Try.func59 (body := ring_of.body) (res := [.tmp 4]) rfl (by kernel_rfl) ring_of.cuts (kn) (fun x => by kernel_rfl), _, Try.func59, by kernel_rfl, by kernel_rfl⟩
/-! ### steeple/cube.of$1: function 123 -/
def cube_of_1.f (k : Nat) (a0 : S34) (a1 : Option Int) : Option Bool := (match a1 with | none => none | some r0 => (octet_Of.f k r0 a0).bind fun r1 => some (!r1))
def cube_of_1.sig (k : Nat) : Sig E.toTys := ⟨[.st 1, .ptr (.int .i64)], [(false, .bool)], none, fun x => f k x.1 x.2.1⟩
noncomputable def cube_of_1.body : Code := Try.f123.body.getD .skip
def cube_of_1.calls (k : Nat) : List (Nat × Sig E.toTys) := [(48, octet_Of.sig k)]
def cube_of_1.cuts : List (Cut E (RT E.toTys [(false, .bool)])) := []
theorem cube_of_1.ok (k : Nat) : Okf (XR E) Try.prog 123 (cube_of_1.sig k) := ⟨fn_ok (C := fun k => tab.ctx fun f => lk f (cube_of_1.calls k)) (fun k => tie _) k (fun j hj => calls_ok (kc (octet_Of.ok j) (kn))) 400 Try.func123 (body := cube_of_1.body) (res := [.tmp 3]) rfl (by kernel_rfl) cube_of_1.cuts (kn) (fun x => by kernel_rfl), _, Try.func123, by kernel_rfl, by kernel_rfl⟩
/-! ### slices.IndexFunc: function 125 -/
def slices_IndexFunc125_c123.l2 : Nat → List S34 → Int → Int → Int → Option Int
  | 0, _, _, _, _ => none
  | k + 1, x0, x1, x2, x3 => if x3 < x2 then (if 0 ≤ x3 then (if x3 < (x0.length : Int) then ((cube_of_1.f k (rd34 x0 x3) (some x1)).bind fun r0 => if r0 = true then some x3 else slices_IndexFunc125_c123.l2 k x0 x1 x2 (wrap64 (x3 + 1))) else none) else none) else some (-1)
def slices_IndexFunc125_c123.f (k : Nat) (a0 : List S34) (a1 : Int) : Option Int := slices_IndexFunc125_c123.l2 k a0 a1 (a0.length : Int) 0
def slices_IndexFunc125_c123.sig (k : Nat) : Sig E.toTys := ⟨[.slice (.st 1), .ext 123 (.int .i64)], [(false, .int .i64)], none, fun x => f k x.1 x.2.1⟩
noncomputable def slices_IndexFunc125_c123.body : Code := Try.f125.body.getD .skip
def slices_IndexFunc125_c123.calls (k : Nat) : List (Nat × Sig E.toTys) := [(123, cube_of_1.sig k)]
def slices_IndexFunc125_c123.cuts : List (Cut E (RT E.toTys [(false, .int .i64)])) := [⟨true, 2, ⟨cat [.one (.val (.slice (.st 1))), .one (.val (.ext 123 (.int .i64)))] (cat (ds 5) (cat [.one (.val (.int .i64)), .one (.val (.int .i64))] (ds 10))), [], false⟩, fun k x => slices_IndexFunc125_c123.l2 k x.1.1 x.1.2.1 x.1.2.2.1 x.1.2.2.2.1⟩]
theorem slices_IndexFunc125_c123.ok (k : Nat) : Okf (XR E) Try.prog 125 (slices_IndexFunc125_c123.sig k) := ⟨fn_ok (C := fun k => tab.ctx fun f => lk f (slices_IndexFunc125_c123.calls k)) (fun k => tie _) k (fun j hj => calls_ok (kc (cube_of_1.ok j) (kn))) 400 Try.func125 (body := slices_IndexFunc125_c123.body) (res := [.tmp 4]) rfl (by kernel_rfl) slices_IndexFunc125_c123.cuts (kc ⟨by kernel_rfl, rfl, fun _ => rfl, fun _ _ => by kernel_rfl⟩ (kn)) (fun x => by kernel_rfl), _, Try.func125, by kernel_rfl, by kernel_rfl⟩
/-! ### slices.ContainsFunc: function 98 -/
def slices_ContainsFunc98_c123.f (k : Nat) (a0 : List S34) (a1 : Int) : Option Bool := (slices_IndexFunc125_c123.f k a0 a1).bind fun r0 => some (decide (r0 ≥ 0))
def slices_ContainsFunc98_c123.sig (k : Nat) : Sig E.toTys := ⟨[.slice (.st 1), .ext 123 (.int .i64)], [(false, .bool)], none, fun x => f k x.1 x.2.1⟩
noncomputable def slices_ContainsFunc98_c123.body : Code := Try.f98.body.getD .skip
def slices_ContainsFunc98_c123.calls (k : Nat) : List (Nat × Sig E.toTys) := [(125, slices_IndexFunc125_c123.sig k)]
def slices_ContainsFunc98_c123.cuts : List (Cut E (RT E.toTys [(false, .bool)])) := []
theorem slices_ContainsFunc98_c123.ok (k : Nat) : Okf (XR E) Try.prog 98 (slices_ContainsFunc98_c123.sig k) := ⟨fn_ok (C := fun k => tab.ctx fun f => lk f (slices_ContainsFunc98_c123.calls k)) (fun k => tie _) k (fun j hj => calls_ok (kc (slices_IndexFunc125_c123.ok j) (kn))) 400 Try.func98 (body := slices_ContainsFunc98_c123.body) (res := [.tmp 4]) rfl (by kernel_rfl) slices_ContainsFunc98_c123.cuts (kn) (fun x => by kernel_rfl), _, Try.func98, by kernel_rfl, by kernel_rfl⟩
/-! ### steeple/cube.of: function 94 -/
def cube_of.f (k : Nat) (a0 : Int) (a1 : List S34) : Option Bool := (slices_ContainsFunc98_c123.f k a1 a0).bind fun r0 => some (!r0)
def cube_of.sig (k : Nat) : Sig E.toTys := ⟨[.int .i64, .slice (.st 1)], [(false, .bool)], none, fun x => f k x.1 x.2.1⟩
noncomputable def cube_of.body : Code := Try.f94.body.getD .skip
def cube_of.calls (k : Nat) : List (Nat × Sig E.toTys) := [(98, slices_ContainsFunc98_c123.sig k)]
def cube_of.cuts : List (Cut E (RT E.toTys [(false, .bool)])) := []
theorem cube_of.ok (k : Nat) : Okf (XR E) Try.prog 94 (cube_of.sig k) := ⟨fn_ok (C := fun k => tab.ctx fun f => lk f (cube_of.calls k)) (fun k => tie _) k (fun j hj => calls_ok (kc (slices_ContainsFunc98_c123.ok j) (kn))) 400 Try.func94 (body := cube_of.body) (res := [.tmp 4]) rfl (by kernel_rfl) cube_of.cuts (kn) (fun x => by kernel_rfl), _, Try.func94, by kernel_rfl, by kernel_rfl⟩
/-! ### steeple/tower.One: function 95 -/
def tower_One.f (k : Nat) : Option S34 := some (⟨0, 1⟩ : S34)
def tower_One.sig (k : Nat) : Sig E.toTys := ⟨[], [(false, .st 1)], none, fun x => f k⟩
noncomputable def tower_One.body : Code := Try.f95.body.getD .skip
def tower_One.calls (k : Nat) : List (Nat × Sig E.toTys) := []
def tower_One.cuts : List (Cut E (RT E.toTys [(false, .st 1)])) := []
theorem tower_One.ok (k : Nat) : Okf (XR E) Try.prog 95 (tower_One.sig k) := ⟨fn_ok (C := fun k => tab.ctx fun f => lk f (tower_One.calls k)) (fun k => tie _) k (fun j hj => calls_ok (kn)) 400 Try.func95 (body := tower_One.body) (res := [.cell 0 34]) rfl (by kernel_rfl) tower_One.cuts (kn) (fun x => by kernel_rfl), _, Try.func95, by kernel_rfl, by kernel_rfl⟩
/-! ### steeple/cube.Weights: function 57 -/
mutual
def cube_Weights.l5 : Nat → Int → List S34 → Int → Int → List S34 → Option (List S34)
  | 0, _, _, _, _, _ => none
  | k + 1, x0, x1, x2, x3, x4 => if x3 < x2 then (if 0 ≤ x3 then (if x3 < (x1.length : Int) then (if 0 ≤ (x4.length : Int) then (if (x4.length : Int) ≤ 140737488355328 / ((16 : Nat) : Int) then cube_Weights.l9 k x0 x1 x2 x3 (x4.length : Int) 0 x4 (rd34 x1 x3).f0 (rd34 x1 x3).f1 (List.replicate (Int.toNat (x4.length : Int)) z34) else none) else none) else none) else none) else some x4
def cube_Weights.l9 : Nat → Int → List S34 → Int → Int → Int → Int → List S34 → Int → Int → List S34 → Option (List S34)
  | 0, _, _, _, _, _, _, _, _, _, _ => none
  | k + 1, x0, x1, x2, x3, x4, x5, x6, x7, x8, x9 => if x5 < x4 then (if 0 ≤ x5 then (if x5 < (x6.length : Int) then ((tower_Mul.f k x0 (rd34 x6 x5) (⟨x7, x8⟩ : S34)).bind fun r3 => if 0 ≤ x5 then (if x5 < (x9.length : Int) then (if 0 ≤ x5 then (if x5 < ((x9.set (Int.toNat x5) r3).length : Int) then ((tower_Add.f k (rd34 x6 x5) (rd34 (x9.set (Int.toNat x5) r3) x5)).bind fun r4 => if 0 ≤ x5 then (if x5 < (x6.length : Int) then cube_Weights.l9 k x0 x1 x2 x3 x4 (wrap64 (x5 + 1)) (x6.set (Int.toNat x5) r4) x7 x8 (x9.set (Int.toNat x5) r3) else none) else none) else none) else none) else none) else none) else none) else none) else if x6.length + x9.length ≤ 140737488355328 / 16 then cube_Weights.l5 k x0 x1 x2 (wrap64 (x3 + 1)) (x6 ++ x9) else none
end
def cube_Weights.f (k : Nat) (a0 : Int) (a1 : List S34) : Option (List S34) := (octet_Wide.f k a0).bind fun r0 => if r0 = 0 then some [] else if (a1.length : Int) > 16 then some [] else (cube_of.f k a0 a1).bind fun r1 => if (!r1) = true then some [] else (tower_One.f k).bind fun r2 => cube_Weights.l5 k a0 a1 (a1.length : Int) 0 [r2]
def cube_Weights.sig (k : Nat) : Sig E.toTys := ⟨[.int .i64, .slice (.st 1)], [(true, .slice (.st 1))], none, fun x => f k x.1 x.2.1⟩
noncomputable def cube_Weights.body : Code := Try.f57.body.getD .skip
def cube_Weights.calls (k : Nat) : List (Nat × Sig E.toTys) := [(77, octet_Wide.sig k), (94, cube_of.sig k), (95, tower_One.sig k), (50, tower_Mul.sig k), (49, tower_Add.sig k)]
def cube_Weights.cuts : List (Cut E (RT E.toTys [(true, .slice (.st 1))])) := [⟨true, 5, ⟨cat [.one (.val (.int .i64))] (cat (ds 4) (cat [.one (.ref 0)] (cat (ds 21) (cat [.one (.val (.slice (.st 1))), .one (.val (.int .i64)), .one (.val (.int .i64))] (ds 35))))), [.arr (.st 1)], false⟩, fun k x => cube_Weights.l5 k x.1.1 x.1.2.1 x.1.2.2.1 x.1.2.2.2.1 x.2.1⟩,
  ⟨true, 9, ⟨cat [.one (.val (.int .i64))] (cat (ds 4) (cat [.one (.ref 0)] (cat (ds 1) (cat [.one (.ptr 1 0), .one (.ref 2)] (cat (ds 18) (cat [.one (.val (.slice (.st 1))), .one (.val (.int .i64)), .one (.val (.int .i64))] (cat (ds 6) (cat [.one (.ref 0), .one (.val (.int .i64)), .one (.val (.int .i64))] (ds 26))))))))), [.arr (.st 1), .var [.val (.int .u64), .val (.int .u64)], .arr (.st 1)], false⟩, fun k x => cube_Weights.l9 k x.1.1 x.1.2.1 x.1.2.2.1 x.1.2.2.2.1 x.1.2.2.2.2.1 x.1.2.2.2.2.2.1 x.2.1 x.2.2.1.1 x.2.2.1.2.1 x.2.2.2.1⟩]
theorem cube_Weights.ok (k : Nat) : Okf (XR E) Try.prog 57 (cube_Weights.sig k) := ⟨fn_ok (C := fun k => tab.ctx fun f => lk f (cube_Weights.calls k)) (fun k => tie _) k (fun j hj => calls_ok (kc (octet_Wide.ok j) (kc (cube_of.ok j) (kc (tower_One.ok j) (kc (tower_Mul.ok j) (kc (tower_Add.ok j) (kn))))))) 400 Try.func57 (body := cube_Weights.body) (res := [.tmp 4]) rfl (by kernel_rfl) cube_Weights.cuts (kc ⟨by kernel_rfl, rfl, fun _ => rfl, fun _ _ => by kernel_rfl⟩ (kc ⟨by kernel_rfl, rfl, fun _ => rfl, fun _ _ => by kernel_rfl⟩ (kn))) (fun x => by kernel_rfl), _, Try.func57, by kernel_rfl, by kernel_rfl⟩
/-! ### steeple/ring.Parts: function 54 -/
mutual
def ring_Parts.l10 : Nat → Int → List Bool → Int → Int → List S34 → List S34 → Option ((List S34) × Int)
  | 0, _, _, _, _, _, _ => none
  | k + 1, x0, x1, x2, x3, x4, x5 => if x3 < x2 then (if 0 ≤ x3 then (if x3 < (x5.length : Int) then ring_Parts.l13 k x0 x1 x3 x2 x3 (x4.length : Int) 0 x4 (rd34 x5 x3).f0 (rd34 x5 x3).f1 x5 else none) else none) else some (x4, 0)
def ring_Parts.l13 : Nat → Int → List Bool → Int → Int → Int → Int → Int → List S34 → Int → Int → List S34 → Option ((List S34) × Int)
  | 0, _, _, _, _, _, _, _, _, _, _, _ => none
  | k + 1, x0, x1, x2, x3, x4, x5, x6, x7, x8, x9, x10 => if x6 < x5 then (if 0 ≤ x0 then (if 0 ≤ wrap64 ((shl .i64 x2 x0) + x6) then (if wrap64 ((shl .i64 x2 x0) + x6) < (x1.length : Int) then (if (rdB x1 (wrap64 ((shl .i64 x2 x0) + x6))) = true then (if 0 ≤ x6 then (if x6 < (x7.length : Int) then ((tower_Add.f k (rd34 x7 x6) (⟨x8, x9⟩ : S34)).bind fun r4 => if 0 ≤ x6 then (if x6 < (x7.length : Int) then ring_Parts.l13 k x0 x1 x2 x3 x4 x5 (wrap64 (x6 + 1)) (x7.set (Int.toNat x6) r4) x8 x9 x10 else none) else none) else none) else none) else ring_Parts.l13 k x0 x1 x2 x3 x4 x5 (wrap64 (x6 + 1)) x7 x8 x9 x10) else none) else none) else none) else ring_Parts.l10 k x0 x1 x3 (wrap64 (x4 + 1)) x7 x10
end
def ring_Parts.f (k : Nat) (a0 : Int) (a1 : List Bool) (a2 : List S34) : Option ((List S34) × Int) := (ring_ask.f k a0 a1).bind fun r0 => if r0 = 0 then ((cube_Log.f k (a1.length : Int)).bind fun r1 => if (a2.length : Int) = wrap64 (r1 - a0) then ((ring_of.f k a0 a2).bind fun r2 => if (!r2) = true then some ([], 5) else if 0 ≤ a0 then (if 0 ≤ shl .i64 1 a0 then (if shl .i64 1 a0 ≤ 140737488355328 / ((16 : Nat) : Int) then ((cube_Weights.f k a0 a2).bind fun r3 => ring_Parts.l10 k a0 a1 (r3.length : Int) 0 (List.replicate (Int.toNat (shl .i64 1 a0)) z34) r3) else none) else none) else none) else some ([], 6)) else some ([], r0)
def ring_Parts.sig (k : Nat) : Sig E.toTys := ⟨[.int .i64, .slice .bool, .slice (.st 1)], [(true, .slice (.st 1)), (false, .int .i64)], none, fun x => f k x.1 x.2.1 x.2.2.1⟩
noncomputable def ring_Parts.body : Code := Try.f54.body.getD .skip
def ring_Parts.calls (k : Nat) : List (Nat × Sig E.toTys) := [(90, ring_ask.sig k), (91, cube_Log.sig k), (59, ring_of.sig k), (57, cube_Weights.sig k), (49, tower_Add.sig k)]
def ring_Parts.cuts : List (Cut E (RT E.toTys [(true, .slice (.st 1)), (false, .int .i64)])) := [⟨true, 10, ⟨cat [.one (.val (.int .i64)), .one (.val (.slice .bool))] (cat (ds 7) (cat [.one (.ref 0)] (cat (ds 29) (cat [.one (.ref 1), .one (.val (.int .i64)), .one (.val (.int .i64))] (ds 29))))), [.arr (.st 1), .arr (.st 1)], false⟩, fun k x => ring_Parts.l10 k x.1.1 x.1.2.1 x.1.2.2.1 x.1.2.2.2.1 x.2.1 x.2.2.1⟩,
  ⟨true, 13, ⟨cat [.one (.val (.int .i64)), .one (.val (.slice .bool))] (cat (ds 7) (cat [.one (.ref 0), .one (.val (.int .i64)), .one (.ptr 1 0)] (cat (ds 27) (cat [.one (.ref 2), .one (.val (.int .i64)), .one (.val (.int .i64))] (cat (ds 5) (cat [.one (.val (.int .i64)), .one (.val (.int .i64))] (ds 22))))))), [.arr (.st 1), .var [.val (.int .u64), .val (.int .u64)], .arr (.st 1)], false⟩, fun k x => ring_Parts.l13 k x.1.1 x.1.2.1 x.1.2.2.1 x.1.2.2.2.1 x.1.2.2.2.2.1 x.1.2.2.2.2.2.1 x.1.2.2.2.2.2.2.1 x.2.1 x.2.2.1.1 x.2.2.1.2.1 x.2.2.2.1⟩]
theorem ring_Parts.ok (k : Nat) : Okf (XR E) Try.prog 54 (ring_Parts.sig k) := ⟨fn_ok (C := fun k => tab.ctx fun f => lk f (ring_Parts.calls k)) (fun k => tie _) k (fun j hj => calls_ok (kc (ring_ask.ok j) (kc (cube_Log.ok j) (kc (ring_of.ok j) (kc (cube_Weights.ok j) (kc (tower_Add.ok j) (kn))))))) 400 Try.func54 (body := ring_Parts.body) (res := [.tmp 6, .tmp 7]) rfl (by kernel_rfl) ring_Parts.cuts (kc ⟨by kernel_rfl, rfl, fun _ => rfl, fun _ _ => by kernel_rfl⟩ (kc ⟨by kernel_rfl, rfl, fun _ => rfl, fun _ _ => by kernel_rfl⟩ (kn))) (fun x => by kernel_rfl), _, Try.func54, by kernel_rfl, by kernel_rfl⟩
/-! ### steeple/ring.may: function 92 -/
def ring_may.f (k : Nat) (a0 : Int) (a1 : List S34) (a2 : List S34) : Option Int := (octet_Wide.f k a0).bind fun r0 => if r0 = 0 then some 1 else if 0 ≤ a0 then (if (a1.length : Int) = shl .i64 1 a0 then (if (a2.length : Int) = a0 then ((ring_of.f k a0 a1).bind fun r1 => if (!r1) = true then some 5 else (ring_of.f k a0 a2).bind fun r2 => if (!r2) = true then some 5 else some 0) else some 6) else some 6) else none
def ring_may.sig (k : Nat) : Sig E.toTys := ⟨[.int .i64, .slice (.st 1), .slice (.st 1)], [(false, .int .i64)], none, fun x => f k x.1 x.2.1 x.2.2.1⟩
noncomputable def ring_may.body : Code := Try.f92.body.getD .skip
def ring_may.calls (k : Nat) : List (Nat × Sig E.toTys) := [(77, octet_Wide.sig k), (59, ring_of.sig k)]
def ring_may.cuts : List (Cut E (RT E.toTys [(false, .int .i64)])) := []
theorem ring_may.ok (k : Nat) : Okf (XR E) Try.prog 92 (ring_may.sig k) := ⟨fn_ok (C := fun k => tab.ctx fun f => lk f (ring_may.calls k)) (fun k => tie _) k (fun j hj => calls_ok (kc (octet_Wide.ok j) (kc (ring_of.ok j) (kn)))) 400 Try.func92 (body := ring_may.body) (res := [.tmp 6]) rfl (by kernel_rfl) ring_may.cuts (kn) (fun x => by kernel_rfl), _, Try.func92, by kernel_rfl, by kernel_rfl⟩
/-! ### steeple/tower.Dot: function 93 -/
def tower_Dot.l5 : Nat → Int → List S34 → List S34 → Int → Int → Int → Int → Int → Int → Option S34
  | 0, _, _, _, _, _, _, _, _, _ => none
  | k + 1, x0, x1, x2, x3, x4, x5, x6, x7, x8 => if x4 < x3 then (if 0 ≤ x4 then (if x4 < (x1.length : Int) then ((octet_Of.f k x0 (rd34 x1 x4)).bind fun r0 => if (!r0) = true then some (⟨0, 0⟩ : S34) else if 0 ≤ x4 then (if x4 < (x2.length : Int) then ((octet_Of.f k x0 (rd34 x2 x4)).bind fun r1 => if (!r1) = true then some (⟨0, 0⟩ : S34) else if 0 ≤ x4 then (if x4 < (x1.length : Int) then (if 0 ≤ x4 then (if x4 < (x2.length : Int) then ((tower_Mul.f k x0 (rd34 x1 x4) (rd34 x2 x4)).bind fun r2 => (tower_Add.f k (⟨x7, x8⟩ : S34) r2).bind fun r3 => tower_Dot.l5 k x0 x1 x2 x3 (wrap64 (x4 + 1)) x5 x6 r3.f0 r3.f1) else none) else none) else none) else none) else none) else none) else none) else none) else some (⟨x7, x8⟩ : S34)
def tower_Dot.f (k : Nat) (a0 : Int) (a1 : List S34) (a2 : List S34) : Option S34 := if (a1.length : Int) = (a2.length : Int) then tower_Dot.l5 k a0 a1 a2 (a1.length : Int) 0 0 0 0 0 else some (⟨0, 0⟩ : S34)
def tower_Dot.sig (k : Nat) : Sig E.toTys := ⟨[.int .i64, .slice (.st 1), .slice (.st 1)], [(false, .st 1)], none, fun x => f k x.1 x.2.1 x.2.2.1⟩
noncomputable def tower_Dot.body : Code := Try.f93.body.getD .skip
def tower_Dot.calls (k : Nat) : List (Nat × Sig E.toTys) := [(48, octet_Of.sig k), (50, tower_Mul.sig k), (49, tower_Add.sig k)]
def tower_Dot.cuts : List (Cut E (RT E.toTys [(false, .st 1)])) := [⟨true, 5, ⟨cat [.one (.val (.int .i64)), .one (.val (.slice (.st 1))), .one (.val (.slice (.st 1)))] (cat (ds 3) (cat [.one (.ptr 0 0), .one (.ptr 1 0)] (cat (ds 8) (cat [.one (.val (.int .i64)), .one (.val (.int .i64))] (ds 33))))), [.var [.val (.int .u64), .val (.int .u64)], .var [.val (.int .u64), .val (.int .u64)]], false⟩, fun k x => tower_Dot.l5 k x.1.1 x.1.2.1 x.1.2.2.1 x.1.2.2.2.1 x.1.2.2.2.2.1 x.2.1.1 x.2.1.2.1 x.2.2.1.1 x.2.2.1.2.1⟩]
theorem tower_Dot.ok (k : Nat) : Okf (XR E) Try.prog 93 (tower_Dot.sig k) := ⟨fn_ok (C := fun k => tab.ctx fun f => lk f (tower_Dot.calls k)) (fun k => tie _) k (fun j hj => calls_ok (kc (octet_Of.ok j) (kc (tower_Mul.ok j) (kc (tower_Add.ok j) (kn))))) 400 Try.func93 (body := tower_Dot.body) (res := [.cell 6 34]) rfl (by kernel_rfl) tower_Dot.cuts (kc ⟨by kernel_rfl, rfl, fun _ => rfl, fun _ _ => by kernel_rfl⟩ (kn)) (fun x => by kernel_rfl), _, Try.func93, by kernel_rfl, by kernel_rfl⟩
/-! ### steeple/ring.Value: function 55 -/
def ring_Value.f (k : Nat) (a0 : Int) (a1 : List S34) (a2 : List S34) : Option (S34 × Int) := (ring_may.f k a0 a1 a2).bind fun r0 => if r0 = 0 then ((cube_Weights.f k a0 a2).bind fun r1 => (tower_Dot.f k a0 r1 a1).bind fun r2 => some (r2, 0)) else some ((⟨0, 0⟩ : S34), r0)
def ring_Value.sig (k : Nat) : Sig E.toTys := ⟨[.int .i64, .slice (.st 1), .slice (.st 1)], [(false, .st 1), (false, .int .i64)], none, fun x => f k x.1 x.2.1 x.2.2.1⟩
noncomputable def ring_Value.body : Code := Try.f55.body.getD .skip
def ring_Value.calls (k : Nat) : List (Nat × Sig E.toTys) := [(92, ring_may.sig k), (57, cube_Weights.sig k), (93, tower_Dot.sig k)]
def ring_Value.cuts : List (Cut E (RT E.toTys [(false, .st 1), (false, .int .i64)])) := []
theorem ring_Value.ok (k : Nat) : Okf (XR E) Try.prog 55 (ring_Value.sig k) := ⟨fn_ok (C := fun k => tab.ctx fun f => lk f (ring_Value.calls k)) (fun k => tie _) k (fun j hj => calls_ok (kc (ring_may.ok j) (kc (cube_Weights.ok j) (kc (tower_Dot.ok j) (kn))))) 400 Try.func55 (body := ring_Value.body) (res := [.cell 6 34, .tmp 7]) rfl (by kernel_rfl) ring_Value.cuts (kn) (fun x => by kernel_rfl), _, Try.func55, by kernel_rfl, by kernel_rfl⟩
/-! ### steeple/ring.mayMask: function 56 -/
def ring_mayMask.f (k : Nat) (a0 : Int) (a1 : List S34) (a2 : List S34) : Option Int := (octet_Wide.f k a0).bind fun r0 => if r0 = 0 then some 1 else if (a1.length : Int) > 12 then some 6 else if (a2.length : Int) = a0 then ((ring_of.f k a0 a1).bind fun r1 => if (!r1) = true then some 5 else (ring_of.f k a0 a2).bind fun r2 => if (!r2) = true then some 5 else some 0) else some 6
def ring_mayMask.sig (k : Nat) : Sig E.toTys := ⟨[.int .i64, .slice (.st 1), .slice (.st 1)], [(false, .int .i64)], none, fun x => f k x.1 x.2.1 x.2.2.1⟩
noncomputable def ring_mayMask.body : Code := Try.f56.body.getD .skip
def ring_mayMask.calls (k : Nat) : List (Nat × Sig E.toTys) := [(77, octet_Wide.sig k), (59, ring_of.sig k)]
def ring_mayMask.cuts : List (Cut E (RT E.toTys [(false, .int .i64)])) := []
theorem ring_mayMask.ok (k : Nat) : Okf (XR E) Try.prog 56 (ring_mayMask.sig k) := ⟨fn_ok (C := fun k => tab.ctx fun f => lk f (ring_mayMask.calls k)) (fun k => tie _) k (fun j hj => calls_ok (kc (octet_Wide.ok j) (kc (ring_of.ok j) (kn)))) 400 Try.func56 (body := ring_mayMask.body) (res := [.tmp 6]) rfl (by kernel_rfl) ring_mayMask.cuts (kn) (fun x => by kernel_rfl), _, Try.func56, by kernel_rfl, by kernel_rfl⟩
/-! ### math/bits.Len64: function 124 -/
mutual
def math_bits_Len64.j7 : Nat → Int → Int → Option Int
  | 0, _, _ => none
  | k + 1, x0, x1 => if x0 ≥ 256 then math_bits_Len64.j10 k (shr .u64 x0 8) (wrap64 (x1 + 8)) else math_bits_Len64.j10 k x0 x1
def math_bits_Len64.j10 : Nat → Int → Int → Option Int
  | 0, _, _ => none
  | k + 1, x0, x1 => if 0 ≤ IntKind.u8.wrap x0 then (if IntKind.u8.wrap x0 < (ByteArray.size by256_793 : Int) then some (wrap64 (x1 + (wrap64 (bt by256_793 (IntKind.u8.wrap x0))))) else none) else none
end
def math_bits_Len64.f (k : Nat) (a0 : Int) : Option Int := if a0 ≥ 4294967296 then (if shr .u64 a0 32 ≥ 65536 then math_bits_Len64.j7 k (shr .u64 (shr .u64 a0 32) 16) (wrap64 ((32 : Int) + 16)) else math_bits_Len64.j7 k (shr .u64 a0 32) 32) else if a0 ≥ 65536 then math_bits_Len64.j7 k (shr .u64 a0 16) (wrap64 ((0 : Int) + 16)) else math_bits_Len64.j7 k a0 0
def math_bits_Len64.sig (k : Nat) : Sig E.toTys := ⟨[.int .u64], [(false, .int .i64)], none, fun x => f k x.1⟩
noncomputable def math_bits_Len64.body : Code := Try.f124.body.getD .skip
def math_bits_Len64.calls (k : Nat) : List (Nat × Sig E.toTys) := []
def math_bits_Len64.cuts : List (Cut E (RT E.toTys [(false, .int .i64)])) := [⟨false, 7, ⟨cat [.one (.val (.int .u64))] (cat (ds 1) (cat [.one (.val (.int .i64))] (ds 22))), [], false⟩, fun k x => math_bits_Len64.j7 k x.1.1 x.1.2.1⟩,
  ⟨false, 10, ⟨cat [.one (.val (.int .u64))] (cat (ds 1) (cat [.one (.val (.int .i64))] (ds 22))), [], false⟩, fun k x => math_bits_Len64.j10 k x.1.1 x.1.2.1⟩]
theorem math_bits_Len64.ok (k : Nat) : Okf (XR E) Try.prog 124 (math_bits_Len64.sig k) := ⟨fn_ok (C := fun k => tab.ctx fun f => lk f (math_bits_Len64.calls k)) (fun k => tie _) k (fun j hj => calls_ok (kn)) 400 Try.func124 (body := math_bits_Len64.body) (res := [.tmp 2]) rfl (by kernel_rfl) math_bits_Len64.cuts (kc ⟨by kernel_rfl, rfl, fun _ => rfl, fun _ _ => by kernel_rfl⟩ (kc ⟨by kernel_rfl, rfl, fun _ => rfl, fun _ _ => by kernel_rfl⟩ (kn))) (fun x => by kernel_rfl), _, Try.func124, by kernel_rfl, by kernel_rfl⟩
/-! ### steeple/span.lead: function 96 -/
def span_lead.f (k : Nat) (a0 : S34) : Option Int := if a0.f0 = 0 then ((math_bits_Len64.f k a0.f1).bind fun r0 => some (wrap64 (r0 - 1))) else (math_bits_Len64.f k a0.f0).bind fun r1 => some (wrap64 (63 + r1))
def span_lead.sig (k : Nat) : Sig E.toTys := ⟨[.st 1], [(false, .int .i64)], none, fun x => f k x.1⟩
noncomputable def span_lead.body : Code := Try.f96.body.getD .skip
def span_lead.calls (k : Nat) : List (Nat × Sig E.toTys) := [(124, math_bits_Len64.sig k)]
def span_lead.cuts : List (Cut E (RT E.toTys [(false, .int .i64)])) := []
theorem span_lead.ok (k : Nat) : Okf (XR E) Try.prog 96 (span_lead.sig k) := ⟨fn_ok (C := fun k => tab.ctx fun f => lk f (span_lead.calls k)) (fun k => tie _) k (fun j hj => calls_ok (kc (math_bits_Len64.ok j) (kn))) 400 Try.func96 (body := span_lead.body) (res := [.tmp 2]) rfl (by kernel_rfl) span_lead.cuts (kn) (fun x => by kernel_rfl), _, Try.func96, by kernel_rfl, by kernel_rfl⟩
end Go.Proofs.Ytmoekjdlpfjhiaa.B
namespace Go.Proofs.Ytmoekjdlpfjhiaa.B
open Go.Proofs.Ytmoekjdlpfjhiaa.V.B Go.RowKit
set_option linter.unusedVariables false
/-! ### steeple/tower.Bit: function 110 -/
mutual
def tower_Bit.j3 : Nat → Int → Int → Int → Option S34
  | 0, _, _, _ => none
  | k + 1, x0, x1, x2 => if x0 ≥ 64 then (if x0 < 128 then (if 0 ≤ wrap64 (x0 - 64) then some (⟨shl .u64 1 (wrap64 (x0 - 64)), 0⟩ : S34) else none) else tower_Bit.j5 k x1 x2) else tower_Bit.j5 k x1 x2
def tower_Bit.j5 : Nat → Int → Int → Option S34
  | 0, _, _ => none
  | k + 1, _, _ => some (⟨0, 0⟩ : S34)
end
def tower_Bit.f (k : Nat) (a0 : Int) : Option S34 := if a0 ≥ 0 then (if a0 < 64 then (if 0 ≤ a0 then some (⟨0, shl .u64 1 a0⟩ : S34) else none) else tower_Bit.j3 k a0 0 0) else tower_Bit.j3 k a0 0 0
def tower_Bit.sig (k : Nat) : Sig E.toTys := ⟨[.int .i64], [(false, .st 1)], none, fun x => f k x.1⟩
noncomputable def tower_Bit.body : Code := Try.f110.body.getD .skip
def tower_Bit.calls (k : Nat) : List (Nat × Sig E.toTys) := []
def tower_Bit.cuts : List (Cut E (RT E.toTys [(false, .st 1)])) := [⟨false, 3, ⟨cat [.one (.val (.int .i64))] (cat (ds 1) (cat [.one (.ptr 0 0)] (ds 22))), [.var [.val (.int .u64), .val (.int .u64)]], false⟩, fun k x => tower_Bit.j3 k x.1.1 x.2.1.1 x.2.1.2.1⟩,
  ⟨false, 5, ⟨cat (ds 2) (cat [.one (.ptr 0 0)] (ds 22)), [.var [.val (.int .u64), .val (.int .u64)]], false⟩, fun k x => tower_Bit.j5 k x.2.1.1 x.2.1.2.1⟩]
theorem tower_Bit.ok (k : Nat) : Okf (XR E) Try.prog 110 (tower_Bit.sig k) := ⟨fn_ok (C := fun k => tab.ctx fun f => lk f (tower_Bit.calls k)) (fun k => tie _) k (fun j hj => calls_ok (kn)) 400 Try.func110 (body := tower_Bit.body) (res := [.cell 2 34]) rfl (by kernel_rfl) tower_Bit.cuts (kc ⟨by kernel_rfl, rfl, fun _ => rfl, fun _ _ => by kernel_rfl⟩ (kc ⟨by kernel_rfl, rfl, fun _ => rfl, fun _ _ => by kernel_rfl⟩ (kn))) (fun x => by kernel_rfl), _, Try.func110, by kernel_rfl, by kernel_rfl⟩
/-! ### steeple/span.has: function 109 -/
def span_has.f (k : Nat) (a0 : S34) (a1 : Int) : Option Bool := (tower_Bit.f k a1).bind fun r0 => some (!decide (bits .or .u64 (bits .and .u64 a0.f1 r0.f1) (bits .and .u64 a0.f0 r0.f0) = 0))
def span_has.sig (k : Nat) : Sig E.toTys := ⟨[.st 1, .int .i64], [(false, .bool)], none, fun x => f k x.1 x.2.1⟩
noncomputable def span_has.body : Code := Try.f109.body.getD .skip
def span_has.calls (k : Nat) : List (Nat × Sig E.toTys) := [(110, tower_Bit.sig k)]
def span_has.cuts : List (Cut E (RT E.toTys [(false, .bool)])) := []
theorem span_has.ok (k : Nat) : Okf (XR E) Try.prog 109 (span_has.sig k) := ⟨fn_ok (C := fun k => tab.ctx fun f => lk f (span_has.calls k)) (fun k => tie _) k (fun j hj => calls_ok (kc (tower_Bit.ok j) (kn))) 400 Try.func109 (body := span_has.body) (res := [.tmp 4]) rfl (by kernel_rfl) span_has.cuts (kn) (fun x => by kernel_rfl), _, Try.func109, by kernel_rfl, by kernel_rfl⟩
/-! ### steeple/span.make1: function 97 -/
def span_make1.l3 : Nat → List S34 → Int → Int → Int → Int → Int → Int → Int → Int → Option S34
  | 0, _, _, _, _, _, _, _, _, _ => none
  | k + 1, x0, x1, x2, x3, x4, x5, x6, x7, x8 => if x2 < x1 then (if 0 ≤ x2 then (if x2 < (x0.length : Int) then ((span_has.f k (⟨x3, x4⟩ : S34) x2).bind fun r0 => if r0 = true then ((tower_Add.f k (⟨x7, x8⟩ : S34) (rd34 x0 x2)).bind fun r1 => span_make1.l3 k x0 x1 (wrap64 (x2 + 1)) x3 x4 x5 x6 r1.f0 r1.f1) else span_make1.l3 k x0 x1 (wrap64 (x2 + 1)) x3 x4 x5 x6 x7 x8) else none) else none) else some (⟨x7, x8⟩ : S34)
def span_make1.f (k : Nat) (a0 : List S34) (a1 : S34) : Option S34 := span_make1.l3 k a0 (a0.length : Int) 0 a1.f0 a1.f1 0 0 0 0
def span_make1.sig (k : Nat) : Sig E.toTys := ⟨[.slice (.st 1), .st 1], [(false, .st 1)], none, fun x => f k x.1 x.2.1⟩
noncomputable def span_make1.body : Code := Try.f97.body.getD .skip
def span_make1.calls (k : Nat) : List (Nat × Sig E.toTys) := [(109, span_has.sig k), (49, tower_Add.sig k)]
def span_make1.cuts : List (Cut E (RT E.toTys [(false, .st 1)])) := [⟨true, 3, ⟨cat (ds 3) (cat [.one (.ptr 0 0), .one (.ptr 1 0), .one (.ptr 2 0)] (cat (ds 2) (cat [.one (.val (.slice (.st 1))), .one (.val (.int .i64)), .one (.val (.int .i64))] (ds 12)))), [.var [.val (.int .u64), .val (.int .u64)], .var [.val (.int .u64), .val (.int .u64)], .var [.val (.int .u64), .val (.int .u64)]], false⟩, fun k x => span_make1.l3 k x.1.1 x.1.2.1 x.1.2.2.1 x.2.1.1 x.2.1.2.1 x.2.2.1.1 x.2.2.1.2.1 x.2.2.2.1.1 x.2.2.2.1.2.1⟩]
theorem span_make1.ok (k : Nat) : Okf (XR E) Try.prog 97 (span_make1.sig k) := ⟨fn_ok (C := fun k => tab.ctx fun f => lk f (span_make1.calls k)) (fun k => tie _) k (fun j hj => calls_ok (kc (span_has.ok j) (kc (tower_Add.ok j) (kn)))) 400 Try.func97 (body := span_make1.body) (res := [.cell 4 34]) rfl (by kernel_rfl) span_make1.cuts (kc ⟨by kernel_rfl, rfl, fun _ => rfl, fun _ _ => by kernel_rfl⟩ (kn)) (fun x => by kernel_rfl), _, Try.func97, by kernel_rfl, by kernel_rfl⟩
/-! ### steeple/span.Apply: function 58 -/
def span_Apply.f (k : Nat) (a0 : List S34) (a1 : S34) : Option (S34 × Int) := if (a0.length : Int) > 128 then some ((⟨0, 0⟩ : S34), 1) else (span_lead.f k a1).bind fun r0 => if r0 ≥ (a0.length : Int) then some ((⟨0, 0⟩ : S34), 6) else (span_make1.f k a0 a1).bind fun r1 => some (r1, 0)
def span_Apply.sig (k : Nat) : Sig E.toTys := ⟨[.slice (.st 1), .st 1], [(false, .st 1), (false, .int .i64)], none, fun x => f k x.1 x.2.1⟩
noncomputable def span_Apply.body : Code := Try.f58.body.getD .skip
def span_Apply.calls (k : Nat) : List (Nat × Sig E.toTys) := [(96, span_lead.sig k), (97, span_make1.sig k)]
def span_Apply.cuts : List (Cut E (RT E.toTys [(false, .st 1), (false, .int .i64)])) := []
theorem span_Apply.ok (k : Nat) : Okf (XR E) Try.prog 58 (span_Apply.sig k) := ⟨fn_ok (C := fun k => tab.ctx fun f => lk f (span_Apply.calls k)) (fun k => tie _) k (fun j hj => calls_ok (kc (span_lead.ok j) (kc (span_make1.ok j) (kn)))) 400 Try.func58 (body := span_Apply.body) (res := [.cell 4 34, .tmp 5]) rfl (by kernel_rfl) span_Apply.cuts (kn) (fun x => by kernel_rfl), _, Try.func58, by kernel_rfl, by kernel_rfl⟩
/-! ### steeple/ring.Mask: function 25 -/
def ring_Mask.l7 : Nat → Int → Int → List S34 → List S34 → List S34 → Option ((List S34) × Int)
  | 0, _, _, _, _, _ => none
  | k + 1, x0, x1, x2, x3, x4 => if x1 < x0 then (if 0 ≤ x1 then (if x1 < (x3.length : Int) then ((span_Apply.f k x2 (rd34 x3 x1)).bind fun r3 => if x4.length + [r3.1].length ≤ 140737488355328 / 16 then ring_Mask.l7 k x0 (wrap64 (x1 + 1)) x2 x3 (x4 ++ [r3.1]) else none) else none) else none) else some (x4, 0)
def ring_Mask.f (k : Nat) (a0 : Int) (a1 : List S34) (a2 : List S34) : Option ((List S34) × Int) := (ring_mayMask.f k a0 a1 a2).bind fun r0 => if r0 = 0 then ((cube_Weights.f k a0 a2).bind fun r1 => (cube_Weights.f k a0 a1).bind fun r2 => ring_Mask.l7 k (r2.length : Int) 0 r1 r2 []) else some ([], r0)
def ring_Mask.sig (k : Nat) : Sig E.toTys := ⟨[.int .i64, .slice (.st 1), .slice (.st 1)], [(true, .slice (.st 1)), (false, .int .i64)], none, fun x => f k x.1 x.2.1 x.2.2.1⟩
noncomputable def ring_Mask.body : Code := Try.f25.body.getD .skip
def ring_Mask.calls (k : Nat) : List (Nat × Sig E.toTys) := [(56, ring_mayMask.sig k), (57, cube_Weights.sig k), (58, span_Apply.sig k)]
def ring_Mask.cuts : List (Cut E (RT E.toTys [(true, .slice (.st 1)), (false, .int .i64)])) := [⟨true, 7, ⟨cat (ds 9) (cat [.one (.ref 0), .one (.ref 2)] (cat (ds 16) (cat [.one (.ref 1), .one (.val (.int .i64)), .one (.val (.int .i64))] (ds 15)))), [.arr (.st 1), .arr (.st 1), .arr (.st 1)], false⟩, fun k x => ring_Mask.l7 k x.1.1 x.1.2.1 x.2.1 x.2.2.1 x.2.2.2.1⟩]
theorem ring_Mask.ok (k : Nat) : Okf (XR E) Try.prog 25 (ring_Mask.sig k) := ⟨fn_ok (C := fun k => tab.ctx fun f => lk f (ring_Mask.calls k)) (fun k => tie _) k (fun j hj => calls_ok (kc (ring_mayMask.ok j) (kc (cube_Weights.ok j) (kc (span_Apply.ok j) (kn))))) 400 Try.func25 (body := ring_Mask.body) (res := [.tmp 6, .tmp 7]) rfl (by kernel_rfl) ring_Mask.cuts (kc ⟨by kernel_rfl, rfl, fun _ => rfl, fun _ _ => by kernel_rfl⟩ (kn)) (fun x => by kernel_rfl), _, Try.func25, by kernel_rfl, by kernel_rfl⟩
/-! ### steeple/steeplelaw23.awake: function 23 -/
def steeplelaw23_awake.f (k : Nat) : Option Bool := (ring_Parts.f k 0 [true, false] [(⟨0, 1⟩ : S34)]).bind fun r0 => (ring_Value.f k 0 r0.1 []).bind fun r1 => (ring_Mask.f k 0 [(⟨0, 1⟩ : S34)] []).bind fun r2 => if r0.2 = 0 then (if r1.2 = 0 then (if r2.2 = 0 then (if (r0.1.length : Int) = 1 then (if 0 < (r0.1.length : Int) then (if (rd34 r0.1 (0 : Int)).f0 = 0 ∧ (rd34 r0.1 (0 : Int)).f1 = 0 then (if r1.1.f0 = 0 ∧ r1.1.f1 = 0 then (if (r2.1.length : Int) = 2 then (if 1 < (r2.1.length : Int) then some (decide ((rd34 r2.1 (1 : Int)).f0 = 0 ∧ (rd34 r2.1 (1 : Int)).f1 = 1)) else none) else some false) else some false) else some false) else none) else some false) else some false) else some false) else some false
def steeplelaw23_awake.sig (k : Nat) : Sig E.toTys := ⟨[], [(false, .bool)], none, fun x => f k⟩
noncomputable def steeplelaw23_awake.body : Code := Try.f23.body.getD .skip
def steeplelaw23_awake.calls (k : Nat) : List (Nat × Sig E.toTys) := [(54, ring_Parts.sig k), (55, ring_Value.sig k), (25, ring_Mask.sig k)]
def steeplelaw23_awake.cuts : List (Cut E (RT E.toTys [(false, .bool)])) := []
theorem steeplelaw23_awake.ok (k : Nat) : Okf (XR E) Try.prog 23 (steeplelaw23_awake.sig k) := ⟨fn_ok (C := fun k => tab.ctx fun f => lk f (steeplelaw23_awake.calls k)) (fun k => tie _) k (fun j hj => calls_ok (kc (ring_Parts.ok j) (kc (ring_Value.ok j) (kc (ring_Mask.ok j) (kn))))) 400 Try.func23 (body := steeplelaw23_awake.body) (res := [.tmp 0]) rfl (by kernel_rfl) steeplelaw23_awake.cuts (kn) (fun x => by kernel_rfl), _, Try.func23, by kernel_rfl, by kernel_rfl⟩
/-! ### steeple/steeplelaw01.Ref: function 24 -/
def steeplelaw01_Ref.l3 : Nat → List S34 → Int → List S71 → Option (List S71)
  | 0, _, _, _ => none
  | k + 1, x0, x1, x2 => if x1 < (x0.length : Int) then (if 0 ≤ x1 then (if x1 < (x0.length : Int) then (if x2.length + [(⟨(rd34 x0 x1).f0, (rd34 x0 x1).f1⟩ : S71)].length ≤ 140737488355328 / 16 then steeplelaw01_Ref.l3 k x0 (wrap64 (x1 + 1)) (x2 ++ [(⟨(rd34 x0 x1).f0, (rd34 x0 x1).f1⟩ : S71)]) else none) else none) else none) else some x2
def steeplelaw01_Ref.f (k : Nat) (a0 : List S34) : Option (List S71) := steeplelaw01_Ref.l3 k a0 0 []
def steeplelaw01_Ref.sig (k : Nat) : Sig E.toTys := ⟨[.slice (.st 1)], [(true, .slice (.st 3))], none, fun x => f k x.1⟩
noncomputable def steeplelaw01_Ref.body : Code := Try.f24.body.getD .skip
def steeplelaw01_Ref.calls (k : Nat) : List (Nat × Sig E.toTys) := []
def steeplelaw01_Ref.cuts : List (Cut E (RT E.toTys [(true, .slice (.st 3))])) := [⟨true, 3, ⟨cat [.one (.val (.slice (.st 1)))] (cat (ds 2) (cat [.one (.ref 0), .one (.val (.int .i64))] (ds 14))), [.arr (.st 3)], false⟩, fun k x => steeplelaw01_Ref.l3 k x.1.1 x.1.2.1 x.2.1⟩]
theorem steeplelaw01_Ref.ok (k : Nat) : Okf (XR E) Try.prog 24 (steeplelaw01_Ref.sig k) := ⟨fn_ok (C := fun k => tab.ctx fun f => lk f (steeplelaw01_Ref.calls k)) (fun k => tie _) k (fun j hj => calls_ok (kn)) 400 Try.func24 (body := steeplelaw01_Ref.body) (res := [.tmp 2]) rfl (by kernel_rfl) steeplelaw01_Ref.cuts (kc ⟨by kernel_rfl, rfl, fun _ => rfl, fun _ _ => by kernel_rfl⟩ (kn)) (fun x => by kernel_rfl), _, Try.func24, by kernel_rfl, by kernel_rfl⟩
/-! ### steeple/packv.size: function 100 -/
def packv_size.f (k : Nat) (a0 : Int) : Option Int := (octet_Wide.f k a0).bind fun r0 => if r0 = 0 then some 0 else if 0 ≤ a0 then some (shl .i64 1 a0) else none
def packv_size.sig (k : Nat) : Sig E.toTys := ⟨[.int .i64], [(false, .int .i64)], none, fun x => f k x.1⟩
noncomputable def packv_size.body : Code := Try.f100.body.getD .skip
def packv_size.calls (k : Nat) : List (Nat × Sig E.toTys) := [(77, octet_Wide.sig k)]
def packv_size.cuts : List (Cut E (RT E.toTys [(false, .int .i64)])) := []
theorem packv_size.ok (k : Nat) : Okf (XR E) Try.prog 100 (packv_size.sig k) := ⟨fn_ok (C := fun k => tab.ctx fun f => lk f (packv_size.calls k)) (fun k => tie _) k (fun j hj => calls_ok (kc (octet_Wide.ok j) (kn))) 400 Try.func100 (body := packv_size.body) (res := [.tmp 2]) rfl (by kernel_rfl) packv_size.cuts (kn) (fun x => by kernel_rfl), _, Try.func100, by kernel_rfl, by kernel_rfl⟩
/-! ### slices.Grow: function 128 -/
def slices_Grow128.f (k : Nat) (a0 : Unit) (a1 : Int) : Option (List S34) := if a1 < 0 then none else if wrap64 (a1 - (wrap64 (0 - ((0 : Nat) : Int)))) > 0 then (if 0 ≤ ((0 : Nat) : Int) then (if 0 ≤ wrap64 (a1 - (wrap64 (0 - ((0 : Nat) : Int)))) then (if wrap64 (a1 - (wrap64 (0 - ((0 : Nat) : Int)))) ≤ 140737488355328 / ((16 : Nat) : Int) then (if 0 ≤ ((0 : Nat) : Int) then (if ((0 : Nat) : Int) ≤ ((List.replicate (Int.toNat (wrap64 (a1 - (wrap64 (0 - ((0 : Nat) : Int)))))) z34).length : Int) then some ((List.replicate (Int.toNat (wrap64 (a1 - (wrap64 (0 - ((0 : Nat) : Int)))))) z34).take (Int.toNat ((0 : Nat) : Int))) else none) else none) else none) else none) else none) else some []
def slices_Grow128.sig (k : Nat) : Sig E.toTys := ⟨[.em, .int .i64], [(true, .slice (.st 1))], none, fun x => f k x.1 x.2.1⟩
noncomputable def slices_Grow128.body : Code := Try.f128.body.getD .skip
def slices_Grow128.calls (k : Nat) : List (Nat × Sig E.toTys) := []
def slices_Grow128.cuts : List (Cut E (RT E.toTys [(true, .slice (.st 1))])) := []
theorem slices_Grow128.ok (k : Nat) : Okf (XR E) Try.prog 128 (slices_Grow128.sig k) := ⟨fn_ok (C := fun k => tab.ctx fun f => lk f (slices_Grow128.calls k)) (fun k => tie _) k (fun j hj => calls_ok (kn)) 400 Try.func128 (body := slices_Grow128.body) (res := [.tmp 4]) rfl (by kernel_rfl) slices_Grow128.cuts (kn) (fun x => by kernel_rfl), _, Try.func128, by kernel_rfl, by kernel_rfl⟩
/-! ### slices.Concat: function 102 -/
mutual
def slices_Concat102.l3 : Nat → List (List S34) → Int → List (List S34) → Int → Int → Option (List S34)
  | 0, _, _, _, _, _ => none
  | k + 1, x0, x1, x2, x3, x4 => if x4 < x3 then (if 0 ≤ x4 then (if x4 < (x2.length : Int) then (if wrap64 (x1 + ((rdL x2 x4).length : Int)) < 0 then none else slices_Concat102.l3 k x0 (wrap64 (x1 + ((rdL x2 x4).length : Int))) x2 x3 (wrap64 (x4 + 1))) else none) else none) else (slices_Grow128.f k () x1).bind fun r0 => slices_Concat102.l11 k x0 (x0.length : Int) 0 r0
def slices_Concat102.l11 : Nat → List (List S34) → Int → Int → List S34 → Option (List S34)
  | 0, _, _, _, _ => none
  | k + 1, x0, x1, x2, x3 => if x2 < x1 then (if 0 ≤ x2 then (if x2 < (x0.length : Int) then (if x3.length + (rdL x0 x2).length ≤ 140737488355328 / 16 then slices_Concat102.l11 k x0 x1 (wrap64 (x2 + 1)) (x3 ++ (rdL x0 x2)) else none) else none) else none) else some x3
end
def slices_Concat102.f (k : Nat) (a0 : List (List S34)) : Option (List S34) := slices_Concat102.l3 k a0 0 a0 (a0.length : Int) 0
def slices_Concat102.sig (k : Nat) : Sig E.toTys := ⟨[.slice (.slice (.st 1))], [(true, .slice (.st 1))], none, fun x => f k x.1⟩
noncomputable def slices_Concat102.body : Code := Try.f102.body.getD .skip
def slices_Concat102.calls (k : Nat) : List (Nat × Sig E.toTys) := [(128, slices_Grow128.sig k)]
def slices_Concat102.cuts : List (Cut E (RT E.toTys [(true, .slice (.st 1))])) := [⟨true, 3, ⟨cat [.one (.val (.slice (.slice (.st 1))))] (cat (ds 2) (cat [.one (.val (.int .i64))] (cat (ds 5) (cat [.one (.val (.slice (.slice (.st 1)))), .one (.val (.int .i64)), .one (.val (.int .i64))] (ds 24))))), [], false⟩, fun k x => slices_Concat102.l3 k x.1.1 x.1.2.1 x.1.2.2.1 x.1.2.2.2.1 x.1.2.2.2.2.1⟩,
  ⟨true, 11, ⟨cat (ds 6) (cat [.one (.ref 0)] (cat (ds 18) (cat [.one (.val (.slice (.slice (.st 1)))), .one (.val (.int .i64)), .one (.val (.int .i64))] (ds 8)))), [.arr (.st 1)], false⟩, fun k x => slices_Concat102.l11 k x.1.1 x.1.2.1 x.1.2.2.1 x.2.1⟩]
theorem slices_Concat102.ok (k : Nat) : Okf (XR E) Try.prog 102 (slices_Concat102.sig k) := ⟨fn_ok (C := fun k => tab.ctx fun f => lk f (slices_Concat102.calls k)) (fun k => tie _) k (fun j hj => calls_ok (kc (slices_Grow128.ok j) (kn))) 400 Try.func102 (body := slices_Concat102.body) (res := [.tmp 2]) rfl (by kernel_rfl) slices_Concat102.cuts (kc ⟨by kernel_rfl, rfl, fun _ => rfl, fun _ _ => by kernel_rfl⟩ (kc ⟨by kernel_rfl, rfl, fun _ => rfl, fun _ _ => by kernel_rfl⟩ (kn))) (fun x => by kernel_rfl), _, Try.func102, by kernel_rfl, by kernel_rfl⟩
/-! ### steeple/packv.ask$1: function 126 -/
def packv_ask_1.f (k : Nat) (a0 : S34) (a1 : Option Int) : Option Bool := (match a1 with | none => none | some r0 => (octet_Of.f k r0 a0).bind fun r1 => some (!r1))
def packv_ask_1.sig (k : Nat) : Sig E.toTys := ⟨[.st 1, .ptr (.int .i64)], [(false, .bool)], none, fun x => f k x.1 x.2.1⟩
noncomputable def packv_ask_1.body : Code := Try.f126.body.getD .skip
def packv_ask_1.calls (k : Nat) : List (Nat × Sig E.toTys) := [(48, octet_Of.sig k)]
def packv_ask_1.cuts : List (Cut E (RT E.toTys [(false, .bool)])) := []
theorem packv_ask_1.ok (k : Nat) : Okf (XR E) Try.prog 126 (packv_ask_1.sig k) := ⟨fn_ok (C := fun k => tab.ctx fun f => lk f (packv_ask_1.calls k)) (fun k => tie _) k (fun j hj => calls_ok (kc (octet_Of.ok j) (kn))) 400 Try.func126 (body := packv_ask_1.body) (res := [.tmp 3]) rfl (by kernel_rfl) packv_ask_1.cuts (kn) (fun x => by kernel_rfl), _, Try.func126, by kernel_rfl, by kernel_rfl⟩
/-! ### slices.IndexFunc: function 139 -/
def slices_IndexFunc139_c126.l2 : Nat → List S34 → Int → Int → Int → Option Int
  | 0, _, _, _, _ => none
  | k + 1, x0, x1, x2, x3 => if x3 < x2 then (if 0 ≤ x3 then (if x3 < (x0.length : Int) then ((packv_ask_1.f k (rd34 x0 x3) (some x1)).bind fun r0 => if r0 = true then some x3 else slices_IndexFunc139_c126.l2 k x0 x1 x2 (wrap64 (x3 + 1))) else none) else none) else some (-1)
def slices_IndexFunc139_c126.f (k : Nat) (a0 : List S34) (a1 : Int) : Option Int := slices_IndexFunc139_c126.l2 k a0 a1 (a0.length : Int) 0
def slices_IndexFunc139_c126.sig (k : Nat) : Sig E.toTys := ⟨[.slice (.st 1), .ext 126 (.int .i64)], [(false, .int .i64)], none, fun x => f k x.1 x.2.1⟩
noncomputable def slices_IndexFunc139_c126.body : Code := Try.f139.body.getD .skip
def slices_IndexFunc139_c126.calls (k : Nat) : List (Nat × Sig E.toTys) := [(126, packv_ask_1.sig k)]
def slices_IndexFunc139_c126.cuts : List (Cut E (RT E.toTys [(false, .int .i64)])) := [⟨true, 2, ⟨cat [.one (.val (.slice (.st 1))), .one (.val (.ext 126 (.int .i64)))] (cat (ds 5) (cat [.one (.val (.int .i64)), .one (.val (.int .i64))] (ds 10))), [], false⟩, fun k x => slices_IndexFunc139_c126.l2 k x.1.1 x.1.2.1 x.1.2.2.1 x.1.2.2.2.1⟩]
theorem slices_IndexFunc139_c126.ok (k : Nat) : Okf (XR E) Try.prog 139 (slices_IndexFunc139_c126.sig k) := ⟨fn_ok (C := fun k => tab.ctx fun f => lk f (slices_IndexFunc139_c126.calls k)) (fun k => tie _) k (fun j hj => calls_ok (kc (packv_ask_1.ok j) (kn))) 400 Try.func139 (body := slices_IndexFunc139_c126.body) (res := [.tmp 4]) rfl (by kernel_rfl) slices_IndexFunc139_c126.cuts (kc ⟨by kernel_rfl, rfl, fun _ => rfl, fun _ _ => by kernel_rfl⟩ (kn)) (fun x => by kernel_rfl), _, Try.func139, by kernel_rfl, by kernel_rfl⟩
/-! ### slices.ContainsFunc: function 127 -/
def slices_ContainsFunc127_c126.f (k : Nat) (a0 : List S34) (a1 : Int) : Option Bool := (slices_IndexFunc139_c126.f k a0 a1).bind fun r0 => some (decide (r0 ≥ 0))
def slices_ContainsFunc127_c126.sig (k : Nat) : Sig E.toTys := ⟨[.slice (.st 1), .ext 126 (.int .i64)], [(false, .bool)], none, fun x => f k x.1 x.2.1⟩
noncomputable def slices_ContainsFunc127_c126.body : Code := Try.f127.body.getD .skip
def slices_ContainsFunc127_c126.calls (k : Nat) : List (Nat × Sig E.toTys) := [(139, slices_IndexFunc139_c126.sig k)]
def slices_ContainsFunc127_c126.cuts : List (Cut E (RT E.toTys [(false, .bool)])) := []
theorem slices_ContainsFunc127_c126.ok (k : Nat) : Okf (XR E) Try.prog 127 (slices_ContainsFunc127_c126.sig k) := ⟨fn_ok (C := fun k => tab.ctx fun f => lk f (slices_ContainsFunc127_c126.calls k)) (fun k => tie _) k (fun j hj => calls_ok (kc (slices_IndexFunc139_c126.ok j) (kn))) 400 Try.func127 (body := slices_ContainsFunc127_c126.body) (res := [.tmp 4]) rfl (by kernel_rfl) slices_ContainsFunc127_c126.cuts (kn) (fun x => by kernel_rfl), _, Try.func127, by kernel_rfl, by kernel_rfl⟩
/-! ### slices.IndexFunc: function 125 -/
def slices_IndexFunc125_c126.l2 : Nat → List S34 → Int → Int → Int → Option Int
  | 0, _, _, _, _ => none
  | k + 1, x0, x1, x2, x3 => if x3 < x2 then (if 0 ≤ x3 then (if x3 < (x0.length : Int) then ((packv_ask_1.f k (rd34 x0 x3) (some x1)).bind fun r0 => if r0 = true then some x3 else slices_IndexFunc125_c126.l2 k x0 x1 x2 (wrap64 (x3 + 1))) else none) else none) else some (-1)
def slices_IndexFunc125_c126.f (k : Nat) (a0 : List S34) (a1 : Int) : Option Int := slices_IndexFunc125_c126.l2 k a0 a1 (a0.length : Int) 0
def slices_IndexFunc125_c126.sig (k : Nat) : Sig E.toTys := ⟨[.slice (.st 1), .ext 126 (.int .i64)], [(false, .int .i64)], none, fun x => f k x.1 x.2.1⟩
noncomputable def slices_IndexFunc125_c126.body : Code := Try.f125.body.getD .skip
def slices_IndexFunc125_c126.calls (k : Nat) : List (Nat × Sig E.toTys) := [(126, packv_ask_1.sig k)]
def slices_IndexFunc125_c126.cuts : List (Cut E (RT E.toTys [(false, .int .i64)])) := [⟨true, 2, ⟨cat [.one (.val (.slice (.st 1))), .one (.val (.ext 126 (.int .i64)))] (cat (ds 5) (cat [.one (.val (.int .i64)), .one (.val (.int .i64))] (ds 10))), [], false⟩, fun k x => slices_IndexFunc125_c126.l2 k x.1.1 x.1.2.1 x.1.2.2.1 x.1.2.2.2.1⟩]
theorem slices_IndexFunc125_c126.ok (k : Nat) : Okf (XR E) Try.prog 125 (slices_IndexFunc125_c126.sig k) := ⟨fn_ok (C := fun k => tab.ctx fun f => lk f (slices_IndexFunc125_c126.calls k)) (fun k => tie _) k (fun j hj => calls_ok (kc (packv_ask_1.ok j) (kn))) 400 Try.func125 (body := slices_IndexFunc125_c126.body) (res := [.tmp 4]) rfl (by kernel_rfl) slices_IndexFunc125_c126.cuts (kc ⟨by kernel_rfl, rfl, fun _ => rfl, fun _ _ => by kernel_rfl⟩ (kn)) (fun x => by kernel_rfl), _, Try.func125, by kernel_rfl, by kernel_rfl⟩
/-! ### slices.ContainsFunc: function 98 -/
def slices_ContainsFunc98_c126.f (k : Nat) (a0 : List S34) (a1 : Int) : Option Bool := (slices_IndexFunc125_c126.f k a0 a1).bind fun r0 => some (decide (r0 ≥ 0))
def slices_ContainsFunc98_c126.sig (k : Nat) : Sig E.toTys := ⟨[.slice (.st 1), .ext 126 (.int .i64)], [(false, .bool)], none, fun x => f k x.1 x.2.1⟩
noncomputable def slices_ContainsFunc98_c126.body : Code := Try.f98.body.getD .skip
def slices_ContainsFunc98_c126.calls (k : Nat) : List (Nat × Sig E.toTys) := [(125, slices_IndexFunc125_c126.sig k)]
def slices_ContainsFunc98_c126.cuts : List (Cut E (RT E.toTys [(false, .bool)])) := []
theorem slices_ContainsFunc98_c126.ok (k : Nat) : Okf (XR E) Try.prog 98 (slices_ContainsFunc98_c126.sig k) := ⟨fn_ok (C := fun k => tab.ctx fun f => lk f (slices_ContainsFunc98_c126.calls k)) (fun k => tie _) k (fun j hj => calls_ok (kc (slices_IndexFunc125_c126.ok j) (kn))) 400 Try.func98 (body := slices_ContainsFunc98_c126.body) (res := [.tmp 4]) rfl (by kernel_rfl) slices_ContainsFunc98_c126.cuts (kn) (fun x => by kernel_rfl), _, Try.func98, by kernel_rfl, by kernel_rfl⟩
/-! ### steeple/packv.ask: function 101 -/
mutual
def packv_ask.l4 : Nat → List (List S34) → List S34 → List (List S34) → Int → Int → Int → Option Int
  | 0, _, _, _, _, _, _ => none
  | k + 1, x0, x1, x2, x3, x4, x5 => if x4 < x3 then (if 0 ≤ x4 then (if x4 < (x2.length : Int) then ((packv_size.f k x5).bind fun r1 => if ((rdL x2 x4).length : Int) = r1 then packv_ask.l4 k x0 x1 x2 x3 (wrap64 (x4 + 1)) x5 else some 6) else none) else none) else packv_ask.l11 k x1 x0 (x0.length : Int) 0 x5
def packv_ask.l11 : Nat → List S34 → List (List S34) → Int → Int → Int → Option Int
  | 0, _, _, _, _, _ => none
  | k + 1, x0, x1, x2, x3, x4 => if x3 < x2 then (if 0 ≤ x3 then (if x3 < (x1.length : Int) then ((slices_ContainsFunc127_c126.f k (rdL x1 x3) x4).bind fun r2 => if r2 = true then some 5 else packv_ask.l11 k x0 x1 x2 (wrap64 (x3 + 1)) x4) else none) else none) else (slices_ContainsFunc98_c126.f k x0 x4).bind fun r3 => if r3 = true then some 5 else some 0
end
def packv_ask.f (k : Nat) (a0 : Int) (a1 : List (List S34)) (a2 : List S34) : Option Int := (packv_size.f k a0).bind fun r0 => if r0 = 0 then some 1 else packv_ask.l4 k a1 a2 a1 (a1.length : Int) 0 a0
def packv_ask.sig (k : Nat) : Sig E.toTys := ⟨[.int .i64, .slice (.slice (.st 1)), .slice (.st 1)], [(false, .int .i64)], none, fun x => f k x.1 x.2.1 x.2.2.1⟩
noncomputable def packv_ask.body : Code := Try.f101.body.getD .skip
def packv_ask.calls (k : Nat) : List (Nat × Sig E.toTys) := [(100, packv_size.sig k), (127, slices_ContainsFunc127_c126.sig k), (98, slices_ContainsFunc98_c126.sig k)]
def packv_ask.cuts : List (Cut E (RT E.toTys [(false, .int .i64)])) := [⟨true, 4, ⟨cat (ds 1) (cat [.one (.val (.slice (.slice (.st 1)))), .one (.val (.slice (.st 1))), .one (.ptr 0 0)] (cat (ds 11) (cat [.one (.val (.slice (.slice (.st 1)))), .one (.val (.int .i64)), .one (.val (.int .i64))] (ds 23)))), [.var [.val (.int .i64)]], false⟩, fun k x => packv_ask.l4 k x.1.1 x.1.2.1 x.1.2.2.1 x.1.2.2.2.1 x.1.2.2.2.2.1 x.2.1.1⟩,
  ⟨true, 11, ⟨cat (ds 2) (cat [.one (.val (.slice (.st 1)))] (cat (ds 6) (cat [.clo 126 [.ptr 0 0]] (cat (ds 18) (cat [.one (.val (.slice (.slice (.st 1)))), .one (.val (.int .i64)), .one (.val (.int .i64))] (ds 10)))))), [.var [.val (.int .i64)]], false⟩, fun k x => packv_ask.l11 k x.1.1 x.1.2.2.1 x.1.2.2.2.1 x.1.2.2.2.2.1 x.2.1.1⟩]
theorem packv_ask.ok (k : Nat) : Okf (XR E) Try.prog 101 (packv_ask.sig k) := ⟨fn_ok (C := fun k => tab.ctx fun f => lk f (packv_ask.calls k)) (fun k => tie _) k (fun j hj => calls_ok (kc (packv_size.ok j) (kc (slices_ContainsFunc127_c126.ok j) (kc (slices_ContainsFunc98_c126.ok j) (kn))))) 400 Try.func101 (body := packv_ask.body) (res := [.tmp 6]) rfl (by kernel_rfl) packv_ask.cuts (kc ⟨by kernel_rfl, rfl, fun _ => rfl, fun _ _ => by kernel_rfl⟩ (kc ⟨by kernel_rfl, rfl, fun _ => rfl, fun _ _ => by kernel_rfl⟩ (kn))) (fun x => by kernel_rfl), _, Try.func101, by kernel_rfl, by kernel_rfl⟩
/-! ### steeple/tower.Bits: function 130 -/
def tower_Bits.l5 : Nat → Int → Int → Int → Int → List Bool → Option (List Bool)
  | 0, _, _, _, _, _ => none
  | k + 1, x0, x1, x2, x3, x4 => if x1 < x0 then ((tower_Bit.f k x1).bind fun r1 => if x4.length + [!decide (bits .or .u64 (bits .and .u64 x3 r1.f1) (bits .and .u64 x2 r1.f0) = 0)].length ≤ 140737488355328 / 1 then tower_Bits.l5 k x0 (wrap64 (x1 + 1)) x2 x3 (x4 ++ [!decide (bits .or .u64 (bits .and .u64 x3 r1.f1) (bits .and .u64 x2 r1.f0) = 0)]) else none) else some x4
def tower_Bits.f (k : Nat) (a0 : Int) (a1 : S34) : Option (List Bool) := (octet_Of.f k a0 a1).bind fun r0 => if (!r0) = true then some [] else if 0 ≤ a0 then tower_Bits.l5 k (shl .i64 1 a0) 0 a1.f0 a1.f1 [] else none
def tower_Bits.sig (k : Nat) : Sig E.toTys := ⟨[.int .i64, .st 1], [(true, .slice .bool)], none, fun x => f k x.1 x.2.1⟩
noncomputable def tower_Bits.body : Code := Try.f130.body.getD .skip
def tower_Bits.calls (k : Nat) : List (Nat × Sig E.toTys) := [(48, octet_Of.sig k), (110, tower_Bit.sig k)]
def tower_Bits.cuts : List (Cut E (RT E.toTys [(true, .slice .bool)])) := [⟨true, 5, ⟨cat (ds 3) (cat [.one (.ptr 0 0)] (cat (ds 1) (cat [.one (.ref 1)] (cat (ds 7) (cat [.one (.val (.int .i64)), .one (.val (.int .i64))] (ds 21)))))), [.var [.val (.int .u64), .val (.int .u64)], .arr (.bool)], false⟩, fun k x => tower_Bits.l5 k x.1.1 x.1.2.1 x.2.1.1 x.2.1.2.1 x.2.2.1⟩]
theorem tower_Bits.ok (k : Nat) : Okf (XR E) Try.prog 130 (tower_Bits.sig k) := ⟨fn_ok (C := fun k => tab.ctx fun f => lk f (tower_Bits.calls k)) (fun k => tie _) k (fun j hj => calls_ok (kc (octet_Of.ok j) (kc (tower_Bit.ok j) (kn)))) 400 Try.func130 (body := tower_Bits.body) (res := [.tmp 4]) rfl (by kernel_rfl) tower_Bits.cuts (kc ⟨by kernel_rfl, rfl, fun _ => rfl, fun _ _ => by kernel_rfl⟩ (kn)) (fun x => by kernel_rfl), _, Try.func130, by kernel_rfl, by kernel_rfl⟩
/-! ### steeple/packv.Left: function 129 -/
def packv_Left.l5 : Nat → Int → Int → List S34 → List Bool → Option (List S34)
  | 0, _, _, _, _ => none
  | k + 1, x0, x1, x2, x3 => if x1 < x0 then (if 0 ≤ x1 then (if x1 < (x3.length : Int) then (if (rdB x3 x1) = true then ((tower_One.f k).bind fun r3 => if 0 ≤ x1 then (if x1 < (x2.length : Int) then packv_Left.l5 k x0 (wrap64 (x1 + 1)) (x2.set (Int.toNat x1) r3) x3 else none) else none) else packv_Left.l5 k x0 (wrap64 (x1 + 1)) x2 x3) else none) else none) else some x2
def packv_Left.f (k : Nat) (a0 : Int) (a1 : S34) : Option (List S34) := (octet_Of.f k a0 a1).bind fun r0 => if (!r0) = true then some [] else (packv_size.f k a0).bind fun r1 => if 0 ≤ r1 then (if r1 ≤ 140737488355328 / ((16 : Nat) : Int) then ((tower_Bits.f k a0 a1).bind fun r2 => packv_Left.l5 k (r2.length : Int) 0 (List.replicate (Int.toNat r1) z34) r2) else none) else none
def packv_Left.sig (k : Nat) : Sig E.toTys := ⟨[.int .i64, .st 1], [(true, .slice (.st 1))], none, fun x => f k x.1 x.2.1⟩
noncomputable def packv_Left.body : Code := Try.f129.body.getD .skip
def packv_Left.calls (k : Nat) : List (Nat × Sig E.toTys) := [(48, octet_Of.sig k), (100, packv_size.sig k), (130, tower_Bits.sig k), (95, tower_One.sig k)]
def packv_Left.cuts : List (Cut E (RT E.toTys [(true, .slice (.st 1))])) := [⟨true, 5, ⟨cat (ds 5) (cat [.one (.ref 0)] (cat (ds 11) (cat [.one (.ref 1), .one (.val (.int .i64)), .one (.val (.int .i64))] (ds 11)))), [.arr (.st 1), .arr (.bool)], false⟩, fun k x => packv_Left.l5 k x.1.1 x.1.2.1 x.2.1 x.2.2.1⟩]
theorem packv_Left.ok (k : Nat) : Okf (XR E) Try.prog 129 (packv_Left.sig k) := ⟨fn_ok (C := fun k => tab.ctx fun f => lk f (packv_Left.calls k)) (fun k => tie _) k (fun j hj => calls_ok (kc (octet_Of.ok j) (kc (packv_size.ok j) (kc (tower_Bits.ok j) (kc (tower_One.ok j) (kn)))))) 400 Try.func129 (body := packv_Left.body) (res := [.tmp 4]) rfl (by kernel_rfl) packv_Left.cuts (kc ⟨by kernel_rfl, rfl, fun _ => rfl, fun _ _ => by kernel_rfl⟩ (kn)) (fun x => by kernel_rfl), _, Try.func129, by kernel_rfl, by kernel_rfl⟩
/-! ### steeple/packv.One: function 103 -/
def packv_One.f (k : Nat) (a0 : Int) : Option (List S34) := (tower_One.f k).bind fun r0 => (packv_Left.f k a0 r0).bind fun r1 => some r1
def packv_One.sig (k : Nat) : Sig E.toTys := ⟨[.int .i64], [(true, .slice (.st 1))], none, fun x => f k x.1⟩
noncomputable def packv_One.body : Code := Try.f103.body.getD .skip
def packv_One.calls (k : Nat) : List (Nat × Sig E.toTys) := [(95, tower_One.sig k), (129, packv_Left.sig k)]
def packv_One.cuts : List (Cut E (RT E.toTys [(true, .slice (.st 1))])) := []
theorem packv_One.ok (k : Nat) : Okf (XR E) Try.prog 103 (packv_One.sig k) := ⟨fn_ok (C := fun k => tab.ctx fun f => lk f (packv_One.calls k)) (fun k => tie _) k (fun j hj => calls_ok (kc (tower_One.ok j) (kc (packv_Left.ok j) (kn)))) 400 Try.func103 (body := packv_One.body) (res := [.tmp 2]) rfl (by kernel_rfl) packv_One.cuts (kn) (fun x => by kernel_rfl), _, Try.func103, by kernel_rfl, by kernel_rfl⟩
/-! ### slices.Clone: function 104 -/
def slices_Clone104.f (k : Nat) (a0 : List S34) : Option (List S34) := if ([] : List Int).length + a0.length ≤ 140737488355328 / 16 then some ([] ++ a0) else none
def slices_Clone104.sig (k : Nat) : Sig E.toTys := ⟨[.slice (.st 1)], [(true, .slice (.st 1))], none, fun x => f k x.1⟩
noncomputable def slices_Clone104.body : Code := Try.f104.body.getD .skip
def slices_Clone104.calls (k : Nat) : List (Nat × Sig E.toTys) := []
def slices_Clone104.cuts : List (Cut E (RT E.toTys [(true, .slice (.st 1))])) := []
noncomputable def slices_Clone104.fn0 : Func := Try.f104
def slices_Clone104.st0 (xs : List S34) : St E.toTys := ⟨[.c (.s (.val (.slice (.st 1)) xs)), .c (.s .dead), .c (.s .emp), .c (.s .dead), .c (.s .dead), .c (.s .dead), .c (.s .dead), .c (.s .dead)], []⟩
theorem slices_Clone104.ok (k : Nat) : Okf (XR E) Try.prog 104 (slices_Clone104.sig k) := ⟨clone_ok (C := tab.ctx fun f => lk f (slices_Clone104.calls k)) (tie _) (calls_ok kn) (t := 110) (u := .st 1) Try.func104 rfl (res := [.tmp 2]) (by kernel_rfl) ⟨rfl, rfl, rfl⟩ ⟨rfl, rfl, rfl⟩ (by kernel_rfl) slices_Clone104.st0 (fun x => by kernel_rfl) (fun _ => rfl) (fun _ _ => ⟨rfl, rfl⟩) (F := fun x => slices_Clone104.f k x) (by kernel_rfl) (fun xs => by kernel_rfl), _, Try.func104, by kernel_rfl, by kernel_rfl⟩
/-! ### steeple/packv.byLeft: function 105 -/
mutual
def packv_byLeft.l2 : Nat → Int → List S34 → Int → Int → List S34 → Int → Int → Int → Int → Option (List S34)
  | 0, _, _, _, _, _, _, _, _, _ => none
  | k + 1, x0, x1, x2, x3, x4, x5, x6, x7, x8 => if x3 < x2 then (if 0 ≤ x3 then (if x3 < (x1.length : Int) then ((tower_Mul.f k x0 (rd34 x1 x3) (⟨x7, x8⟩ : S34)).bind fun r0 => if r0.f0 = 0 ∧ r0.f1 = 0 then packv_byLeft.l2 k x0 x1 x2 (wrap64 (x3 + 1)) x4 x5 x6 x7 x8 else (tower_Bit.f k x3).bind fun r1 => (tower_Mul.f k x0 r1 (⟨x5, x6⟩ : S34)).bind fun r2 => (tower_Bits.f k x0 r2).bind fun r3 => packv_byLeft.l7 k x0 x1 x2 x3 (r3.length : Int) 0 x4 x5 x6 x7 x8 r0.f0 r0.f1 r3) else none) else none) else some x4
def packv_byLeft.l7 : Nat → Int → List S34 → Int → Int → Int → Int → List S34 → Int → Int → Int → Int → Int → Int → List Bool → Option (List S34)
  | 0, _, _, _, _, _, _, _, _, _, _, _, _, _, _ => none
  | k + 1, x0, x1, x2, x3, x4, x5, x6, x7, x8, x9, x10, x11, x12, x13 => if x5 < x4 then (if 0 ≤ x5 then (if x5 < (x13.length : Int) then (if (rdB x13 x5) = true then (if 0 ≤ x5 then (if x5 < (x6.length : Int) then ((tower_Add.f k (rd34 x6 x5) (⟨x11, x12⟩ : S34)).bind fun r4 => if 0 ≤ x5 then (if x5 < (x6.length : Int) then packv_byLeft.l7 k x0 x1 x2 x3 x4 (wrap64 (x5 + 1)) (x6.set (Int.toNat x5) r4) x7 x8 x9 x10 x11 x12 x13 else none) else none) else none) else none) else packv_byLeft.l7 k x0 x1 x2 x3 x4 (wrap64 (x5 + 1)) x6 x7 x8 x9 x10 x11 x12 x13) else none) else none) else packv_byLeft.l2 k x0 x1 x2 (wrap64 (x3 + 1)) x6 x7 x8 x9 x10
end
def packv_byLeft.f (k : Nat) (a0 : Int) (a1 : List S34) (a2 : List S34) (a3 : S34) (a4 : S34) : Option (List S34) := packv_byLeft.l2 k a0 a2 (a2.length : Int) 0 a1 a3.f0 a3.f1 a4.f0 a4.f1
def packv_byLeft.sig (k : Nat) : Sig E.toTys := ⟨[.int .i64, .slice (.st 1), .slice (.st 1), .st 1, .st 1], [(true, .slice (.st 1))], some 1, fun x => f k x.1 x.2.1 x.2.2.1 x.2.2.2.1 x.2.2.2.2.1⟩
noncomputable def packv_byLeft.body : Code := Try.f105.body.getD .skip
def packv_byLeft.calls (k : Nat) : List (Nat × Sig E.toTys) := [(50, tower_Mul.sig k), (110, tower_Bit.sig k), (130, tower_Bits.sig k), (49, tower_Add.sig k)]
def packv_byLeft.cuts : List (Cut E (RT E.toTys [(true, .slice (.st 1))])) := [⟨true, 2, ⟨cat [.one (.val (.int .i64)), .one (.ref 0)] (cat (ds 6) (cat [.one (.ptr 1 0), .one (.ptr 2 0)] (cat (ds 5) (cat [.one (.val (.slice (.st 1))), .one (.val (.int .i64)), .one (.val (.int .i64))] (ds 36))))), [.arr (.st 1), .var [.val (.int .u64), .val (.int .u64)], .var [.val (.int .u64), .val (.int .u64)]], true⟩, fun k x => packv_byLeft.l2 k x.1.1 x.1.2.1 x.1.2.2.1 x.1.2.2.2.1 x.2.1 x.2.2.1.1 x.2.2.1.2.1 x.2.2.2.1.1 x.2.2.2.1.2.1⟩,
  ⟨true, 7, ⟨cat [.one (.val (.int .i64)), .one (.ref 0)] (cat (ds 6) (cat [.one (.ptr 1 0), .one (.ptr 2 0)] (cat (ds 2) (cat [.one (.ptr 3 0)] (cat (ds 2) (cat [.one (.val (.slice (.st 1))), .one (.val (.int .i64)), .one (.val (.int .i64))] (cat (ds 17) (cat [.one (.ref 4), .one (.val (.int .i64)), .one (.val (.int .i64))] (ds 16))))))))), [.arr (.st 1), .var [.val (.int .u64), .val (.int .u64)], .var [.val (.int .u64), .val (.int .u64)], .var [.val (.int .u64), .val (.int .u64)], .arr (.bool)], true⟩, fun k x => packv_byLeft.l7 k x.1.1 x.1.2.1 x.1.2.2.1 x.1.2.2.2.1 x.1.2.2.2.2.1 x.1.2.2.2.2.2.1 x.2.1 x.2.2.1.1 x.2.2.1.2.1 x.2.2.2.1.1 x.2.2.2.1.2.1 x.2.2.2.2.1.1 x.2.2.2.2.1.2.1 x.2.2.2.2.2.1⟩]
theorem packv_byLeft.ok (k : Nat) : Okf (XR E) Try.prog 105 (packv_byLeft.sig k) := ⟨fn_okIO (C := fun k => tab.ctx fun f => lk f (packv_byLeft.calls k)) (fun k => tie _) k (fun j hj => calls_ok (kc (tower_Mul.ok j) (kc (tower_Bit.ok j) (kc (tower_Bits.ok j) (kc (tower_Add.ok j) (kn)))))) 400 1 Try.func105 (body := packv_byLeft.body) (res := []) rfl (by kernel_rfl) packv_byLeft.cuts (kc ⟨by kernel_rfl, rfl, fun _ => rfl, fun _ _ => by kernel_rfl⟩ (kc ⟨by kernel_rfl, rfl, fun _ => rfl, fun _ _ => by kernel_rfl⟩ (kn))) (fun x => by kernel_rfl), _, Try.func105, by kernel_rfl, by kernel_rfl⟩
/-! ### steeple/packv.Alike: function 60 -/
mutual
def packv_Alike.l10 : Nat → Int → List S34 → List S34 → Int → Int → List S34 → Option ((List S34) × Int)
  | 0, _, _, _, _, _, _ => none
  | k + 1, x0, x1, x2, x3, x4, x5 => if x4 < x3 then ((slices_Clone104.f k x5).bind fun r4 => if 0 ≤ x4 then (if x4 < (x1.length : Int) then ((tower_One.f k).bind fun r5 => (packv_byLeft.f k x0 r4 x5 (rd34 x1 x4) r5).bind fun r6 => packv_Alike.l15 k x0 x1 x2 x4 x3 x4 (x5.length : Int) 0 r6 x5) else none) else none) else some (x5, 0)
def packv_Alike.l15 : Nat → Int → List S34 → List S34 → Int → Int → Int → Int → Int → List S34 → List S34 → Option ((List S34) × Int)
  | 0, _, _, _, _, _, _, _, _, _, _ => none
  | k + 1, x0, x1, x2, x3, x4, x5, x6, x7, x8, x9 => if x7 < x6 then (if 0 ≤ x7 then (if x7 < (x9.length : Int) then (if 0 ≤ x7 then (if x7 < (x8.length : Int) then (if 0 ≤ x3 then (if x3 < (x2.length : Int) then ((tower_Mul.f k x0 (rd34 x9 x7) (rd34 x2 x3)).bind fun r7 => (tower_Add.f k (rd34 x8 x7) r7).bind fun r8 => if 0 ≤ x7 then (if x7 < (x8.length : Int) then packv_Alike.l15 k x0 x1 x2 x3 x4 x5 x6 (wrap64 (x7 + 1)) (x8.set (Int.toNat x7) r8) x9 else none) else none) else none) else none) else none) else none) else none) else none) else packv_Alike.l10 k x0 x1 x2 x4 (wrap64 (x5 + 1)) x8
end
def packv_Alike.f (k : Nat) (a0 : Int) (a1 : List S34) (a2 : List S34) : Option ((List S34) × Int) := (packv_size.f k a0).bind fun r0 => if r0 = 0 then some ([], 1) else if (a1.length : Int) = (a2.length : Int) then (if (a1.length : Int) > 16 then some ([], 6) else (slices_Concat102.f k [a1, a2]).bind fun r1 => (packv_ask.f k a0 [] r1).bind fun r2 => if r2 = 0 then ((packv_One.f k a0).bind fun r3 => packv_Alike.l10 k a0 a1 a2 (a1.length : Int) 0 r3) else some ([], r2)) else some ([], 6)
def packv_Alike.sig (k : Nat) : Sig E.toTys := ⟨[.int .i64, .slice (.st 1), .slice (.st 1)], [(true, .slice (.st 1)), (false, .int .i64)], none, fun x => f k x.1 x.2.1 x.2.2.1⟩
noncomputable def packv_Alike.body : Code := Try.f60.body.getD .skip
def packv_Alike.calls (k : Nat) : List (Nat × Sig E.toTys) := [(100, packv_size.sig k), (102, slices_Concat102.sig k), (101, packv_ask.sig k), (103, packv_One.sig k), (104, slices_Clone104.sig k), (95, tower_One.sig k), (105, packv_byLeft.sig k), (50, tower_Mul.sig k), (49, tower_Add.sig k)]
def packv_Alike.cuts : List (Cut E (RT E.toTys [(true, .slice (.st 1)), (false, .int .i64)])) := [⟨true, 10, ⟨cat [.one (.val (.int .i64)), .one (.val (.slice (.st 1))), .one (.val (.slice (.st 1)))] (cat (ds 6) (cat [.one (.ref 0)] (cat (ds 31) (cat [.one (.val (.int .i64)), .one (.val (.int .i64))] (ds 39))))), [.arr (.st 1)], false⟩, fun k x => packv_Alike.l10 k x.1.1 x.1.2.1 x.1.2.2.1 x.1.2.2.2.1 x.1.2.2.2.2.1 x.2.1⟩,
  ⟨true, 15, ⟨cat [.one (.val (.int .i64)), .one (.val (.slice (.st 1))), .one (.val (.slice (.st 1)))] (cat (ds 7) (cat [.one (.val (.int .i64)), .one (.ref 0)] (cat (ds 29) (cat [.one (.val (.int .i64)), .one (.val (.int .i64))] (cat (ds 13) (cat [.one (.ref 1), .one (.val (.int .i64)), .one (.val (.int .i64))] (ds 23))))))), [.arr (.st 1), .arr (.st 1)], false⟩, fun k x => packv_Alike.l15 k x.1.1 x.1.2.1 x.1.2.2.1 x.1.2.2.2.1 x.1.2.2.2.2.1 x.1.2.2.2.2.2.1 x.1.2.2.2.2.2.2.1 x.1.2.2.2.2.2.2.2.1 x.2.1 x.2.2.1⟩]
theorem packv_Alike.ok (k : Nat) : Okf (XR E) Try.prog 60 (packv_Alike.sig k) := ⟨fn_ok (C := fun k => tab.ctx fun f => lk f (packv_Alike.calls k)) (fun k => tie _) k (fun j hj => calls_ok (kc (packv_size.ok j) (kc (slices_Concat102.ok j) (kc (packv_ask.ok j) (kc (packv_One.ok j) (kc (slices_Clone104.ok j) (kc (tower_One.ok j) (kc (packv_byLeft.ok j) (kc (tower_Mul.ok j) (kc (tower_Add.ok j) (kn))))))))))) 400 Try.func60 (body := packv_Alike.body) (res := [.tmp 6, .tmp 7]) rfl (by kernel_rfl) packv_Alike.cuts (kc ⟨by kernel_rfl, rfl, fun _ => rfl, fun _ _ => by kernel_rfl⟩ (kc ⟨by kernel_rfl, rfl, fun _ => rfl, fun _ _ => by kernel_rfl⟩ (kn))) (fun x => by kernel_rfl), _, Try.func60, by kernel_rfl, by kernel_rfl⟩
/-! ### steeple/packv.Fold: function 61 -/
def packv_Fold.f (k : Nat) (a0 : Int) (a1 : List S34) (a2 : List S34) : Option (S34 × Int) := (packv_ask.f k a0 [a1, a2] []).bind fun r0 => if r0 = 0 then ((tower_Dot.f k a0 a1 a2).bind fun r1 => some (r1, 0)) else some ((⟨0, 0⟩ : S34), r0)
def packv_Fold.sig (k : Nat) : Sig E.toTys := ⟨[.int .i64, .slice (.st 1), .slice (.st 1)], [(false, .st 1), (false, .int .i64)], none, fun x => f k x.1 x.2.1 x.2.2.1⟩
noncomputable def packv_Fold.body : Code := Try.f61.body.getD .skip
def packv_Fold.calls (k : Nat) : List (Nat × Sig E.toTys) := [(101, packv_ask.sig k), (93, tower_Dot.sig k)]
def packv_Fold.cuts : List (Cut E (RT E.toTys [(false, .st 1), (false, .int .i64)])) := []
theorem packv_Fold.ok (k : Nat) : Okf (XR E) Try.prog 61 (packv_Fold.sig k) := ⟨fn_ok (C := fun k => tab.ctx fun f => lk f (packv_Fold.calls k)) (fun k => tie _) k (fun j hj => calls_ok (kc (packv_ask.ok j) (kc (tower_Dot.ok j) (kn)))) 400 Try.func61 (body := packv_Fold.body) (res := [.cell 6 34, .tmp 7]) rfl (by kernel_rfl) packv_Fold.cuts (kn) (fun x => by kernel_rfl), _, Try.func61, by kernel_rfl, by kernel_rfl⟩
/-! ### steeple/ring.At: function 26 -/
def ring_At.f (k : Nat) (a0 : Int) (a1 : List S34) (a2 : List S34) (a3 : List S34) : Option (S34 × Int) := (ring_mayMask.f k a0 a1 a2).bind fun r0 => if r0 = 0 then (if (a3.length : Int) = (a1.length : Int) then ((ring_of.f k a0 a3).bind fun r1 => if (!r1) = true then some ((⟨0, 0⟩ : S34), 5) else (packv_Alike.f k a0 a1 a3).bind fun r2 => (cube_Weights.f k a0 a2).bind fun r3 => (packv_Fold.f k a0 r2.1 r3).bind fun r4 => some (r4.1, r4.2)) else some ((⟨0, 0⟩ : S34), 6)) else some ((⟨0, 0⟩ : S34), r0)
def ring_At.sig (k : Nat) : Sig E.toTys := ⟨[.int .i64, .slice (.st 1), .slice (.st 1), .slice (.st 1)], [(false, .st 1), (false, .int .i64)], none, fun x => f k x.1 x.2.1 x.2.2.1 x.2.2.2.1⟩
noncomputable def ring_At.body : Code := Try.f26.body.getD .skip
def ring_At.calls (k : Nat) : List (Nat × Sig E.toTys) := [(56, ring_mayMask.sig k), (59, ring_of.sig k), (60, packv_Alike.sig k), (57, cube_Weights.sig k), (61, packv_Fold.sig k)]
def ring_At.cuts : List (Cut E (RT E.toTys [(false, .st 1), (false, .int .i64)])) := []
theorem ring_At.ok (k : Nat) : Okf (XR E) Try.prog 26 (ring_At.sig k) := ⟨fn_ok (C := fun k => tab.ctx fun f => lk f (ring_At.calls k)) (fun k => tie _) k (fun j hj => calls_ok (kc (ring_mayMask.ok j) (kc (ring_of.ok j) (kc (packv_Alike.ok j) (kc (cube_Weights.ok j) (kc (packv_Fold.ok j) (kn))))))) 400 Try.func26 (body := ring_At.body) (res := [.cell 8 34, .tmp 9]) rfl (by kernel_rfl) ring_At.cuts (kn) (fun x => by kernel_rfl), _, Try.func26, by kernel_rfl, by kernel_rfl⟩
/-! ### steeple/steepleref01.bit: function 79 -/
def steepleref01_bit.f (k : Nat) (a0 : S71) (a1 : Int) : Option Int := if a1 ≥ 64 then (if 0 ≤ IntKind.u64.wrap (wrap64 (a1 - 64)) then some (bits .and .u64 (shr .u64 a0.f0 (IntKind.u64.wrap (wrap64 (a1 - 64)))) 1) else none) else if 0 ≤ IntKind.u64.wrap a1 then some (bits .and .u64 (shr .u64 a0.f1 (IntKind.u64.wrap a1)) 1) else none
def steepleref01_bit.sig (k : Nat) : Sig E.toTys := ⟨[.st 3, .int .i64], [(false, .int .u64)], none, fun x => f k x.1 x.2.1⟩
noncomputable def steepleref01_bit.body : Code := Try.f79.body.getD .skip
def steepleref01_bit.calls (k : Nat) : List (Nat × Sig E.toTys) := []
def steepleref01_bit.cuts : List (Cut E (RT E.toTys [(false, .int .u64)])) := []
theorem steepleref01_bit.ok (k : Nat) : Okf (XR E) Try.prog 79 (steepleref01_bit.sig k) := ⟨fn_ok (C := fun k => tab.ctx fun f => lk f (steepleref01_bit.calls k)) (fun k => tie _) k (fun j hj => calls_ok (kn)) 400 Try.func79 (body := steepleref01_bit.body) (res := [.tmp 4]) rfl (by kernel_rfl) steepleref01_bit.cuts (kn) (fun x => by kernel_rfl), _, Try.func79, by kernel_rfl, by kernel_rfl⟩
/-! ### steeple/steepleref01.Of: function 46 -/
def steepleref01_Of.l5 : Nat → Int → Int → Int → Option Bool
  | 0, _, _, _ => none
  | k + 1, x0, x1, x2 => if x0 < 128 then ((steepleref01_bit.f k (⟨x1, x2⟩ : S71) x0).bind fun r0 => if r0 = 1 then some false else steepleref01_Of.l5 k (wrap64 (x0 + 1)) x1 x2) else some true
def steepleref01_Of.f (k : Nat) (a0 : Int) (a1 : S71) : Option Bool := if a0 < 0 then some false else if a0 > 7 then some false else if 0 ≤ a0 then (if a0 < ([1, 2, 4, 8, 16, 32, 64, 128].length : Int) then steepleref01_Of.l5 k (rdI [1, 2, 4, 8, 16, 32, 64, 128] a0) a1.f0 a1.f1 else none) else none
def steepleref01_Of.sig (k : Nat) : Sig E.toTys := ⟨[.int .i64, .st 3], [(false, .bool)], none, fun x => f k x.1 x.2.1⟩
noncomputable def steepleref01_Of.body : Code := Try.f46.body.getD .skip
def steepleref01_Of.calls (k : Nat) : List (Nat × Sig E.toTys) := [(79, steepleref01_bit.sig k)]
def steepleref01_Of.cuts : List (Cut E (RT E.toTys [(false, .bool)])) := [⟨true, 5, ⟨cat (ds 3) (cat [.one (.ptr 0 0)] (cat (ds 2) (cat [.one (.val (.int .i64))] (ds 19)))), [.var [.val (.int .u64), .val (.int .u64)]], false⟩, fun k x => steepleref01_Of.l5 k x.1.1 x.2.1.1 x.2.1.2.1⟩]
theorem steepleref01_Of.ok (k : Nat) : Okf (XR E) Try.prog 46 (steepleref01_Of.sig k) := ⟨fn_ok (C := fun k => tab.ctx fun f => lk f (steepleref01_Of.calls k)) (fun k => tie _) k (fun j hj => calls_ok (kc (steepleref01_bit.ok j) (kn))) 400 Try.func46 (body := steepleref01_Of.body) (res := [.tmp 4]) rfl (by kernel_rfl) steepleref01_Of.cuts (kc ⟨by kernel_rfl, rfl, fun _ => rfl, fun _ _ => by kernel_rfl⟩ (kn)) (fun x => by kernel_rfl), _, Try.func46, by kernel_rfl, by kernel_rfl⟩
/-! ### steeple/steepleref06.All: function 30 -/
def steepleref06_All.l2 : Nat → Int → List S71 → Int → Option Bool
  | 0, _, _, _ => none
  | k + 1, x0, x1, x2 => if x2 < (x1.length : Int) then (if 0 ≤ x2 then (if x2 < (x1.length : Int) then ((steepleref01_Of.f k x0 (rd71 x1 x2)).bind fun r0 => if (!r0) = true then some false else steepleref06_All.l2 k x0 x1 (wrap64 (x2 + 1))) else none) else none) else some true
def steepleref06_All.f (k : Nat) (a0 : Int) (a1 : List S71) : Option Bool := steepleref06_All.l2 k a0 a1 0
def steepleref06_All.sig (k : Nat) : Sig E.toTys := ⟨[.int .i64, .slice (.st 3)], [(false, .bool)], none, fun x => f k x.1 x.2.1⟩
noncomputable def steepleref06_All.body : Code := Try.f30.body.getD .skip
def steepleref06_All.calls (k : Nat) : List (Nat × Sig E.toTys) := [(46, steepleref01_Of.sig k)]
def steepleref06_All.cuts : List (Cut E (RT E.toTys [(false, .bool)])) := [⟨true, 2, ⟨cat [.one (.val (.int .i64)), .one (.val (.slice (.st 3)))] (cat (ds 3) (cat [.one (.val (.int .i64))] (ds 13))), [], false⟩, fun k x => steepleref06_All.l2 k x.1.1 x.1.2.1 x.1.2.2.1⟩]
theorem steepleref06_All.ok (k : Nat) : Okf (XR E) Try.prog 30 (steepleref06_All.sig k) := ⟨fn_ok (C := fun k => tab.ctx fun f => lk f (steepleref06_All.calls k)) (fun k => tie _) k (fun j hj => calls_ok (kc (steepleref01_Of.ok j) (kn))) 400 Try.func30 (body := steepleref06_All.body) (res := [.tmp 4]) rfl (by kernel_rfl) steepleref06_All.cuts (kc ⟨by kernel_rfl, rfl, fun _ => rfl, fun _ _ => by kernel_rfl⟩ (kn)) (fun x => by kernel_rfl), _, Try.func30, by kernel_rfl, by kernel_rfl⟩
/-! ### steeple/steepleref23.MayMask: function 27 -/
def steepleref23_MayMask.f (k : Nat) (a0 : Int) (a1 : List S71) (a2 : List S71) : Option Int := if a0 < 0 then some 1 else if a0 > 7 then some 1 else if (a1.length : Int) > 12 then some 6 else if (a2.length : Int) = a0 then ((steepleref06_All.f k a0 a1).bind fun r0 => if (!r0) = true then some 5 else (steepleref06_All.f k a0 a2).bind fun r1 => if (!r1) = true then some 5 else some 0) else some 6
def steepleref23_MayMask.sig (k : Nat) : Sig E.toTys := ⟨[.int .i64, .slice (.st 3), .slice (.st 3)], [(false, .int .i64)], none, fun x => f k x.1 x.2.1 x.2.2.1⟩
noncomputable def steepleref23_MayMask.body : Code := Try.f27.body.getD .skip
def steepleref23_MayMask.calls (k : Nat) : List (Nat × Sig E.toTys) := [(30, steepleref06_All.sig k)]
def steepleref23_MayMask.cuts : List (Cut E (RT E.toTys [(false, .int .i64)])) := []
theorem steepleref23_MayMask.ok (k : Nat) : Okf (XR E) Try.prog 27 (steepleref23_MayMask.sig k) := ⟨fn_ok (C := fun k => tab.ctx fun f => lk f (steepleref23_MayMask.calls k)) (fun k => tie _) k (fun j hj => calls_ok (kc (steepleref06_All.ok j) (kn))) 400 Try.func27 (body := steepleref23_MayMask.body) (res := [.tmp 6]) rfl (by kernel_rfl) steepleref23_MayMask.cuts (kn) (fun x => by kernel_rfl), _, Try.func27, by kernel_rfl, by kernel_rfl⟩
/-! ### steeple/steepleref15.Two: function 62 -/
def steepleref15_Two.l3 : Nat → Int → Int → Int → Option Int
  | 0, _, _, _ => none
  | k + 1, x0, x1, x2 => if x2 < x0 then steepleref15_Two.l3 k x0 (wrap64 (2 * x1)) (wrap64 (x2 + 1)) else some x1
def steepleref15_Two.f (k : Nat) (a0 : Int) : Option Int := steepleref15_Two.l3 k a0 1 0
def steepleref15_Two.sig (k : Nat) : Sig E.toTys := ⟨[.int .i64], [(false, .int .i64)], none, fun x => f k x.1⟩
noncomputable def steepleref15_Two.body : Code := Try.f62.body.getD .skip
def steepleref15_Two.calls (k : Nat) : List (Nat × Sig E.toTys) := []
def steepleref15_Two.cuts : List (Cut E (RT E.toTys [(false, .int .i64)])) := [⟨true, 3, ⟨cat [.one (.val (.int .i64))] (cat (ds 2) (cat [.one (.val (.int .i64)), .one (.val (.int .i64))] (ds 8))), [], false⟩, fun k x => steepleref15_Two.l3 k x.1.1 x.1.2.1 x.1.2.2.1⟩]
theorem steepleref15_Two.ok (k : Nat) : Okf (XR E) Try.prog 62 (steepleref15_Two.sig k) := ⟨fn_ok (C := fun k => tab.ctx fun f => lk f (steepleref15_Two.calls k)) (fun k => tie _) k (fun j hj => calls_ok (kn)) 400 Try.func62 (body := steepleref15_Two.body) (res := [.tmp 2]) rfl (by kernel_rfl) steepleref15_Two.cuts (kc ⟨by kernel_rfl, rfl, fun _ => rfl, fun _ _ => by kernel_rfl⟩ (kn)) (fun x => by kernel_rfl), _, Try.func62, by kernel_rfl, by kernel_rfl⟩
/-! ### steeple/steepleref15.one: function 106 -/
def steepleref15_one.f (k : Nat) : Option S71 := some (⟨0, 1⟩ : S71)
def steepleref15_one.sig (k : Nat) : Sig E.toTys := ⟨[], [(false, .st 3)], none, fun x => f k⟩
noncomputable def steepleref15_one.body : Code := Try.f106.body.getD .skip
def steepleref15_one.calls (k : Nat) : List (Nat × Sig E.toTys) := []
def steepleref15_one.cuts : List (Cut E (RT E.toTys [(false, .st 3)])) := []
theorem steepleref15_one.ok (k : Nat) : Okf (XR E) Try.prog 106 (steepleref15_one.sig k) := ⟨fn_ok (C := fun k => tab.ctx fun f => lk f (steepleref15_one.calls k)) (fun k => tie _) k (fun j hj => calls_ok (kn)) 400 Try.func106 (body := steepleref15_one.body) (res := [.cell 0 71]) rfl (by kernel_rfl) steepleref15_one.cuts (kn) (fun x => by kernel_rfl), _, Try.func106, by kernel_rfl, by kernel_rfl⟩
/-! ### steeple/steepleref02.Bit: function 73 -/
def steepleref02_Bit.f (k : Nat) (a0 : Int) : Option S71 := if a0 < 0 then some (⟨0, 0⟩ : S71) else if a0 > 127 then some (⟨0, 0⟩ : S71) else if a0 > 63 then (if 0 ≤ IntKind.u64.wrap (wrap64 (a0 - 64)) then some (⟨shl .u64 1 (IntKind.u64.wrap (wrap64 (a0 - 64))), 0⟩ : S71) else none) else if 0 ≤ IntKind.u64.wrap a0 then some (⟨0, shl .u64 1 (IntKind.u64.wrap a0)⟩ : S71) else none
def steepleref02_Bit.sig (k : Nat) : Sig E.toTys := ⟨[.int .i64], [(false, .st 3)], none, fun x => f k x.1⟩
noncomputable def steepleref02_Bit.body : Code := Try.f73.body.getD .skip
def steepleref02_Bit.calls (k : Nat) : List (Nat × Sig E.toTys) := []
def steepleref02_Bit.cuts : List (Cut E (RT E.toTys [(false, .st 3)])) := []
theorem steepleref02_Bit.ok (k : Nat) : Okf (XR E) Try.prog 73 (steepleref02_Bit.sig k) := ⟨fn_ok (C := fun k => tab.ctx fun f => lk f (steepleref02_Bit.calls k)) (fun k => tie _) k (fun j hj => calls_ok (kn)) 400 Try.func73 (body := steepleref02_Bit.body) (res := [.cell 2 71]) rfl (by kernel_rfl) steepleref02_Bit.cuts (kn) (fun x => by kernel_rfl), _, Try.func73, by kernel_rfl, by kernel_rfl⟩
/-! ### steeple/steepleref02.Has: function 40 -/
def steepleref02_Has.f (k : Nat) (a0 : S71) (a1 : Int) : Option Bool := (steepleref02_Bit.f k a1).bind fun r0 => some (!decide (bits .or .u64 (bits .and .u64 a0.f1 r0.f1) (bits .and .u64 a0.f0 r0.f0) = 0))
def steepleref02_Has.sig (k : Nat) : Sig E.toTys := ⟨[.st 3, .int .i64], [(false, .bool)], none, fun x => f k x.1 x.2.1⟩
noncomputable def steepleref02_Has.body : Code := Try.f40.body.getD .skip
def steepleref02_Has.calls (k : Nat) : List (Nat × Sig E.toTys) := [(73, steepleref02_Bit.sig k)]
def steepleref02_Has.cuts : List (Cut E (RT E.toTys [(false, .bool)])) := []
theorem steepleref02_Has.ok (k : Nat) : Okf (XR E) Try.prog 40 (steepleref02_Has.sig k) := ⟨fn_ok (C := fun k => tab.ctx fun f => lk f (steepleref02_Has.calls k)) (fun k => tie _) k (fun j hj => calls_ok (kc (steepleref02_Bit.ok j) (kn))) 400 Try.func40 (body := steepleref02_Has.body) (res := [.tmp 4]) rfl (by kernel_rfl) steepleref02_Has.cuts (kn) (fun x => by kernel_rfl), _, Try.func40, by kernel_rfl, by kernel_rfl⟩
/-! ### steeple/steepleref02.mask: function 140 -/
def steepleref02_mask.f (k : Nat) (a0 : Int) : Option Int := if 0 ≤ a0 then (if a0 < ([6148914691236517205, 3689348814741910323, 1085102592571150095, 71777214294589695, 281470681808895, 4294967295].length : Int) then some (rdI [6148914691236517205, 3689348814741910323, 1085102592571150095, 71777214294589695, 281470681808895, 4294967295] a0) else none) else none
def steepleref02_mask.sig (k : Nat) : Sig E.toTys := ⟨[.int .i64], [(false, .int .u64)], none, fun x => f k x.1⟩
noncomputable def steepleref02_mask.body : Code := Try.f140.body.getD .skip
def steepleref02_mask.calls (k : Nat) : List (Nat × Sig E.toTys) := []
def steepleref02_mask.cuts : List (Cut E (RT E.toTys [(false, .int .u64)])) := []
theorem steepleref02_mask.ok (k : Nat) : Okf (XR E) Try.prog 140 (steepleref02_mask.sig k) := ⟨fn_ok (C := fun k => tab.ctx fun f => lk f (steepleref02_mask.calls k)) (fun k => tie _) k (fun j hj => calls_ok (kn)) 400 Try.func140 (body := steepleref02_mask.body) (res := [.tmp 2]) rfl (by kernel_rfl) steepleref02_mask.cuts (kn) (fun x => by kernel_rfl), _, Try.func140, by kernel_rfl, by kernel_rfl⟩
/-! ### steeple/steepleref02.timesWord: function 131 -/
def steepleref02_timesWord.f : Nat → Int → Int → Option Int
  | 0, _, _ => none
  | k + 1, a0, a1 => if a0 < 0 then some a1 else if 0 ≤ IntKind.u64.wrap a0 then (if 0 ≤ shl .u64 1 (IntKind.u64.wrap a0) then ((steepleref02_mask.f k a0).bind fun r0 => (steepleref02_mask.f k a0).bind fun r1 => (steepleref02_timesWord.f k (wrap64 (a0 - 1)) (bits .and .u64 (shr .u64 a1 (shl .u64 1 (IntKind.u64.wrap a0))) r0)).bind fun r2 => if 0 ≤ shl .u64 1 (IntKind.u64.wrap a0) then some (bits .or .u64 (shl .u64 (bits .xor .u64 (bits .and .u64 a1 r1) r2) (shl .u64 1 (IntKind.u64.wrap a0))) (bits .and .u64 (shr .u64 a1 (shl .u64 1 (IntKind.u64.wrap a0))) r0)) else none) else none) else none
def steepleref02_timesWord.sig (k : Nat) : Sig E.toTys := ⟨[.int .i64, .int .u64], [(false, .int .u64)], none, fun x => f k x.1 x.2.1⟩
noncomputable def steepleref02_timesWord.body : Code := Try.f131.body.getD .skip
def steepleref02_timesWord.calls (k : Nat) : List (Nat × Sig E.toTys) := [(140, steepleref02_mask.sig k), (131, steepleref02_timesWord.sig k)]
def steepleref02_timesWord.cuts : List (Cut E (RT E.toTys [(false, .int .u64)])) := []
theorem steepleref02_timesWord.oks (k : Nat) : Okf (XR E) Try.prog 131 (steepleref02_timesWord.sig k) := by
  induction k using Nat.strongRecOn with
  | ind k ih =>
  cases k with
  | zero => exact ⟨ok0 fun _ => rfl, _, Try.func131, by kernel_rfl, by kernel_rfl⟩
  | succ k => exact ⟨fn_ok (C := fun k => tab.ctx fun f => lk f (steepleref02_timesWord.calls k)) (fun k => tie _) k (fun j hj => calls_ok (kc (steepleref02_mask.ok j) (kc (ih j (Nat.lt_succ_of_le hj)) (kn)))) 400 Try.func131 (body := steepleref02_timesWord.body) (res := [.tmp 4]) rfl (by kernel_rfl) steepleref02_timesWord.cuts (kn) (fun x => by kernel_rfl), _, Try.func131, by kernel_rfl, by kernel_rfl⟩
theorem steepleref02_timesWord.ok (k : Nat) : Okf (XR E) Try.prog 131 (steepleref02_timesWord.sig k) := (steepleref02_timesWord.oks k)
/-! ### steeple/steepleref02.Times: function 107 -/
def steepleref02_Times.f (k : Nat) (a0 : Int) (a1 : S71) : Option S71 := if a0 < 6 then ((steepleref02_timesWord.f k a0 a1.f0).bind fun r0 => (steepleref02_timesWord.f k a0 a1.f1).bind fun r1 => some (⟨r0, r1⟩ : S71)) else (steepleref02_timesWord.f k 5 a1.f0).bind fun r2 => some (⟨bits .xor .u64 a1.f1 r2, a1.f0⟩ : S71)
def steepleref02_Times.sig (k : Nat) : Sig E.toTys := ⟨[.int .i64, .st 3], [(false, .st 3)], none, fun x => f k x.1 x.2.1⟩
noncomputable def steepleref02_Times.body : Code := Try.f107.body.getD .skip
def steepleref02_Times.calls (k : Nat) : List (Nat × Sig E.toTys) := [(131, steepleref02_timesWord.sig k)]
def steepleref02_Times.cuts : List (Cut E (RT E.toTys [(false, .st 3)])) := []
theorem steepleref02_Times.ok (k : Nat) : Okf (XR E) Try.prog 107 (steepleref02_Times.sig k) := ⟨fn_ok (C := fun k => tab.ctx fun f => lk f (steepleref02_Times.calls k)) (fun k => tie _) k (fun j hj => calls_ok (kc (steepleref02_timesWord.ok j) (kn))) 400 Try.func107 (body := steepleref02_Times.body) (res := [.cell 4 71]) rfl (by kernel_rfl) steepleref02_Times.cuts (kn) (fun x => by kernel_rfl), _, Try.func107, by kernel_rfl, by kernel_rfl⟩
/-! ### steeple/steepleref02.Add: function 64 -/
def steepleref02_Add.f (k : Nat) (a0 : S71) (a1 : S71) : Option S71 := some (⟨bits .xor .u64 a0.f0 a1.f0, bits .xor .u64 a0.f1 a1.f1⟩ : S71)
def steepleref02_Add.sig (k : Nat) : Sig E.toTys := ⟨[.st 3, .st 3], [(false, .st 3)], none, fun x => f k x.1 x.2.1⟩
noncomputable def steepleref02_Add.body : Code := Try.f64.body.getD .skip
def steepleref02_Add.calls (k : Nat) : List (Nat × Sig E.toTys) := []
def steepleref02_Add.cuts : List (Cut E (RT E.toTys [(false, .st 3)])) := []
theorem steepleref02_Add.ok (k : Nat) : Okf (XR E) Try.prog 64 (steepleref02_Add.sig k) := ⟨fn_ok (C := fun k => tab.ctx fun f => lk f (steepleref02_Add.calls k)) (fun k => tie _) k (fun j hj => calls_ok (kn)) 400 Try.func64 (body := steepleref02_Add.body) (res := [.cell 4 71]) rfl (by kernel_rfl) steepleref02_Add.cuts (kn) (fun x => by kernel_rfl), _, Try.func64, by kernel_rfl, by kernel_rfl⟩
end Go.Proofs.Ytmoekjdlpfjhiaa.B
namespace Go.Proofs.Ytmoekjdlpfjhiaa.B
open Go.Proofs.Ytmoekjdlpfjhiaa.V.B Go.RowKit
set_option linter.unusedVariables false
/-! ### steeple/steepleref02.Product: function 65 -/
mutual
def steepleref02_Product.l3 : Nat → Int → Int → Int → Int → Int → Int → Int → Int → Int → Option S71
  | 0, _, _, _, _, _, _, _, _, _ => none
  | k + 1, x0, x1, x2, x3, x4, x5, x6, x7, x8 => if x0 < 128 then ((steepleref02_Has.f k (⟨x3, x4⟩ : S71) x0).bind fun r0 => if (!r0) = true then steepleref02_Product.l3 k (wrap64 (x0 + 1)) x1 x2 x3 x4 x5 x6 x7 x8 else steepleref02_Product.l8 k x0 0 x1 x2 x3 x4 x5 x6 x7 x8 x1 x2) else some (⟨x7, x8⟩ : S71)
def steepleref02_Product.l8 : Nat → Int → Int → Int → Int → Int → Int → Int → Int → Int → Int → Int → Int → Option S71
  | 0, _, _, _, _, _, _, _, _, _, _, _, _ => none
  | k + 1, x0, x1, x2, x3, x4, x5, x6, x7, x8, x9, x10, x11 => if x1 < 7 then (if 0 ≤ IntKind.u64.wrap x1 then (if bits .and .i64 (shr .i64 x0 (IntKind.u64.wrap x1)) 1 = 1 then ((steepleref02_Times.f k x1 (⟨x10, x11⟩ : S71)).bind fun r1 => steepleref02_Product.l8 k x0 (wrap64 (x1 + 1)) x2 x3 x4 x5 x6 x7 x8 x9 r1.f0 r1.f1) else steepleref02_Product.l8 k x0 (wrap64 (x1 + 1)) x2 x3 x4 x5 x6 x7 x8 x9 x10 x11) else none) else (steepleref02_Add.f k (⟨x8, x9⟩ : S71) (⟨x10, x11⟩ : S71)).bind fun r2 => steepleref02_Product.l3 k (wrap64 (x0 + 1)) x2 x3 x4 x5 x6 x7 r2.f0 r2.f1
end
def steepleref02_Product.f (k : Nat) (a0 : S71) (a1 : S71) : Option S71 := steepleref02_Product.l3 k 0 a0.f0 a0.f1 a1.f0 a1.f1 0 0 0 0
def steepleref02_Product.sig (k : Nat) : Sig E.toTys := ⟨[.st 3, .st 3], [(false, .st 3)], none, fun x => f k x.1 x.2.1⟩
noncomputable def steepleref02_Product.body : Code := Try.f65.body.getD .skip
def steepleref02_Product.calls (k : Nat) : List (Nat × Sig E.toTys) := [(40, steepleref02_Has.sig k), (107, steepleref02_Times.sig k), (64, steepleref02_Add.sig k)]
def steepleref02_Product.cuts : List (Cut E (RT E.toTys [(false, .st 3)])) := [⟨true, 3, ⟨cat (ds 2) (cat [.one (.ptr 0 0), .one (.ptr 1 0), .one (.ptr 2 0), .one (.ptr 3 0), .one (.val (.int .i64))] (ds 28)), [.var [.val (.int .u64), .val (.int .u64)], .var [.val (.int .u64), .val (.int .u64)], .var [.val (.int .u64), .val (.int .u64)], .var [.val (.int .u64), .val (.int .u64)]], false⟩, fun k x => steepleref02_Product.l3 k x.1.1 x.2.1.1 x.2.1.2.1 x.2.2.1.1 x.2.2.1.2.1 x.2.2.2.1.1 x.2.2.2.1.2.1 x.2.2.2.2.1.1 x.2.2.2.2.1.2.1⟩,
  ⟨true, 8, ⟨cat (ds 2) (cat [.one (.ptr 0 0), .one (.ptr 1 0), .one (.ptr 2 0), .one (.ptr 3 0), .one (.val (.int .i64)), .one (.ptr 4 0), .one (.val (.int .i64))] (ds 26)), [.var [.val (.int .u64), .val (.int .u64)], .var [.val (.int .u64), .val (.int .u64)], .var [.val (.int .u64), .val (.int .u64)], .var [.val (.int .u64), .val (.int .u64)], .var [.val (.int .u64), .val (.int .u64)]], false⟩, fun k x => steepleref02_Product.l8 k x.1.1 x.1.2.1 x.2.1.1 x.2.1.2.1 x.2.2.1.1 x.2.2.1.2.1 x.2.2.2.1.1 x.2.2.2.1.2.1 x.2.2.2.2.1.1 x.2.2.2.2.1.2.1 x.2.2.2.2.2.1.1 x.2.2.2.2.2.1.2.1⟩]
theorem steepleref02_Product.ok (k : Nat) : Okf (XR E) Try.prog 65 (steepleref02_Product.sig k) := ⟨fn_ok (C := fun k => tab.ctx fun f => lk f (steepleref02_Product.calls k)) (fun k => tie _) k (fun j hj => calls_ok (kc (steepleref02_Has.ok j) (kc (steepleref02_Times.ok j) (kc (steepleref02_Add.ok j) (kn))))) 400 Try.func65 (body := steepleref02_Product.body) (res := [.cell 4 71]) rfl (by kernel_rfl) steepleref02_Product.cuts (kc ⟨by kernel_rfl, rfl, fun _ => rfl, fun _ _ => by kernel_rfl⟩ (kc ⟨by kernel_rfl, rfl, fun _ => rfl, fun _ _ => by kernel_rfl⟩ (kn))) (fun x => by kernel_rfl), _, Try.func65, by kernel_rfl, by kernel_rfl⟩
/-! ### steeple/steepleref15.Weight: function 63 -/
def steepleref15_Weight.l4 : Nat → List S71 → Int → Int → Int → Int → Int → Int → Option S71
  | 0, _, _, _, _, _, _, _ => none
  | k + 1, x0, x1, x2, x3, x4, x5, x6 => if x2 < (x0.length : Int) then (if Int.tmod x1 2 = 1 then (if 0 ≤ x2 then (if x2 < (x0.length : Int) then ((steepleref02_Product.f k (⟨x5, x6⟩ : S71) (rd71 x0 x2)).bind fun r1 => steepleref15_Weight.l4 k x0 (wrap64 (Int.tdiv x1 2)) (wrap64 (x2 + 1)) x3 x4 r1.f0 r1.f1) else none) else none) else (steepleref15_one.f k).bind fun r2 => if 0 ≤ x2 then (if x2 < (x0.length : Int) then ((steepleref02_Add.f k r2 (rd71 x0 x2)).bind fun r3 => (steepleref02_Product.f k (⟨x5, x6⟩ : S71) r3).bind fun r4 => steepleref15_Weight.l4 k x0 (wrap64 (Int.tdiv x1 2)) (wrap64 (x2 + 1)) x3 x4 r4.f0 r4.f1) else none) else none) else some (⟨x5, x6⟩ : S71)
def steepleref15_Weight.f (k : Nat) (a0 : List S71) (a1 : Int) : Option S71 := (steepleref15_one.f k).bind fun r0 => steepleref15_Weight.l4 k a0 a1 0 0 0 r0.f0 r0.f1
def steepleref15_Weight.sig (k : Nat) : Sig E.toTys := ⟨[.slice (.st 3), .int .i64], [(false, .st 3)], none, fun x => f k x.1 x.2.1⟩
noncomputable def steepleref15_Weight.body : Code := Try.f63.body.getD .skip
def steepleref15_Weight.calls (k : Nat) : List (Nat × Sig E.toTys) := [(106, steepleref15_one.sig k), (65, steepleref02_Product.sig k), (64, steepleref02_Add.sig k)]
def steepleref15_Weight.cuts : List (Cut E (RT E.toTys [(false, .st 3)])) := [⟨true, 4, ⟨cat [.one (.val (.slice (.st 3)))] (cat (ds 3) (cat [.one (.ptr 0 0), .one (.ptr 1 0), .one (.val (.int .i64)), .one (.val (.int .i64))] (ds 28))), [.var [.val (.int .u64), .val (.int .u64)], .var [.val (.int .u64), .val (.int .u64)]], false⟩, fun k x => steepleref15_Weight.l4 k x.1.1 x.1.2.1 x.1.2.2.1 x.2.1.1 x.2.1.2.1 x.2.2.1.1 x.2.2.1.2.1⟩]
theorem steepleref15_Weight.ok (k : Nat) : Okf (XR E) Try.prog 63 (steepleref15_Weight.sig k) := ⟨fn_ok (C := fun k => tab.ctx fun f => lk f (steepleref15_Weight.calls k)) (fun k => tie _) k (fun j hj => calls_ok (kc (steepleref15_one.ok j) (kc (steepleref02_Product.ok j) (kc (steepleref02_Add.ok j) (kn))))) 400 Try.func63 (body := steepleref15_Weight.body) (res := [.cell 4 71]) rfl (by kernel_rfl) steepleref15_Weight.cuts (kc ⟨by kernel_rfl, rfl, fun _ => rfl, fun _ _ => by kernel_rfl⟩ (kn)) (fun x => by kernel_rfl), _, Try.func63, by kernel_rfl, by kernel_rfl⟩
/-! ### steeple/steepleref23.Mask: function 28 -/
mutual
def steepleref23_Mask.l3 : Nat → Int → List S71 → List S71 → Int → List S71 → Option (List S71)
  | 0, _, _, _, _, _ => none
  | k + 1, x0, x1, x2, x3, x4 => (steepleref15_Two.f k (x1.length : Int)).bind fun r0 => if x3 < r0 then ((steepleref15_Weight.f k x1 x3).bind fun r1 => steepleref23_Mask.l8 k x0 x1 x2 x3 0 x4 r1.f0 r1.f1 0 0) else some x4
def steepleref23_Mask.l8 : Nat → Int → List S71 → List S71 → Int → Int → List S71 → Int → Int → Int → Int → Option (List S71)
  | 0, _, _, _, _, _, _, _, _, _, _ => none
  | k + 1, x0, x1, x2, x3, x4, x5, x6, x7, x8, x9 => (steepleref15_Two.f k x0).bind fun r2 => if x4 < r2 then ((steepleref02_Has.f k (⟨x6, x7⟩ : S71) x4).bind fun r3 => if r3 = true then ((steepleref15_Weight.f k x2 x4).bind fun r4 => (steepleref02_Add.f k (⟨x8, x9⟩ : S71) r4).bind fun r5 => steepleref23_Mask.l8 k x0 x1 x2 x3 (wrap64 (x4 + 1)) x5 x6 x7 r5.f0 r5.f1) else steepleref23_Mask.l8 k x0 x1 x2 x3 (wrap64 (x4 + 1)) x5 x6 x7 x8 x9) else if x5.length + [(⟨x8, x9⟩ : S71)].length ≤ 140737488355328 / 16 then steepleref23_Mask.l3 k x0 x1 x2 (wrap64 (x3 + 1)) (x5 ++ [(⟨x8, x9⟩ : S71)]) else none
end
def steepleref23_Mask.f (k : Nat) (a0 : Int) (a1 : List S71) (a2 : List S71) : Option (List S71) := steepleref23_Mask.l3 k a0 a1 a2 0 []
def steepleref23_Mask.sig (k : Nat) : Sig E.toTys := ⟨[.int .i64, .slice (.st 3), .slice (.st 3)], [(true, .slice (.st 3))], none, fun x => f k x.1 x.2.1 x.2.2.1⟩
noncomputable def steepleref23_Mask.body : Code := Try.f28.body.getD .skip
def steepleref23_Mask.calls (k : Nat) : List (Nat × Sig E.toTys) := [(62, steepleref15_Two.sig k), (63, steepleref15_Weight.sig k), (40, steepleref02_Has.sig k), (64, steepleref02_Add.sig k)]
def steepleref23_Mask.cuts : List (Cut E (RT E.toTys [(true, .slice (.st 3))])) := [⟨true, 3, ⟨cat [.one (.val (.int .i64)), .one (.val (.slice (.st 3))), .one (.val (.slice (.st 3)))] (cat (ds 4) (cat [.one (.ref 0), .one (.val (.int .i64))] (ds 32))), [.arr (.st 3)], false⟩, fun k x => steepleref23_Mask.l3 k x.1.1 x.1.2.1 x.1.2.2.1 x.1.2.2.2.1 x.2.1⟩,
  ⟨true, 8, ⟨cat [.one (.val (.int .i64)), .one (.val (.slice (.st 3))), .one (.val (.slice (.st 3)))] (cat (ds 4) (cat [.one (.ref 0), .one (.val (.int .i64)), .one (.ptr 1 0), .one (.ptr 2 0), .one (.val (.int .i64))] (ds 29))), [.arr (.st 3), .var [.val (.int .u64), .val (.int .u64)], .var [.val (.int .u64), .val (.int .u64)]], false⟩, fun k x => steepleref23_Mask.l8 k x.1.1 x.1.2.1 x.1.2.2.1 x.1.2.2.2.1 x.1.2.2.2.2.1 x.2.1 x.2.2.1.1 x.2.2.1.2.1 x.2.2.2.1.1 x.2.2.2.1.2.1⟩]
theorem steepleref23_Mask.ok (k : Nat) : Okf (XR E) Try.prog 28 (steepleref23_Mask.sig k) := ⟨fn_ok (C := fun k => tab.ctx fun f => lk f (steepleref23_Mask.calls k)) (fun k => tie _) k (fun j hj => calls_ok (kc (steepleref15_Two.ok j) (kc (steepleref15_Weight.ok j) (kc (steepleref02_Has.ok j) (kc (steepleref02_Add.ok j) (kn)))))) 400 Try.func28 (body := steepleref23_Mask.body) (res := [.tmp 6]) rfl (by kernel_rfl) steepleref23_Mask.cuts (kc ⟨by kernel_rfl, rfl, fun _ => rfl, fun _ _ => by kernel_rfl⟩ (kc ⟨by kernel_rfl, rfl, fun _ => rfl, fun _ _ => by kernel_rfl⟩ (kn))) (fun x => by kernel_rfl), _, Try.func28, by kernel_rfl, by kernel_rfl⟩
/-! ### steeple/steeplelaw01.Same: function 29 -/
def steeplelaw01_Same.l4 : Nat → List S34 → List S71 → Int → Option Bool
  | 0, _, _, _ => none
  | k + 1, x0, x1, x2 => if x2 < (x0.length : Int) then (if 0 ≤ x2 then (if x2 < (x0.length : Int) then (if 0 ≤ x2 then (if x2 < (x1.length : Int) then (if (rd34 x0 x2).f0 = (rd71 x1 x2).f0 ∧ (rd34 x0 x2).f1 = (rd71 x1 x2).f1 then steeplelaw01_Same.l4 k x0 x1 (wrap64 (x2 + 1)) else some false) else none) else none) else none) else none) else some true
def steeplelaw01_Same.f (k : Nat) (a0 : List S34) (a1 : List S71) : Option Bool := if (a0.length : Int) = (a1.length : Int) then steeplelaw01_Same.l4 k a0 a1 0 else some false
def steeplelaw01_Same.sig (k : Nat) : Sig E.toTys := ⟨[.slice (.st 1), .slice (.st 3)], [(false, .bool)], none, fun x => f k x.1 x.2.1⟩
noncomputable def steeplelaw01_Same.body : Code := Try.f29.body.getD .skip
def steeplelaw01_Same.calls (k : Nat) : List (Nat × Sig E.toTys) := []
def steeplelaw01_Same.cuts : List (Cut E (RT E.toTys [(false, .bool)])) := [⟨true, 4, ⟨cat [.one (.val (.slice (.st 1))), .one (.val (.slice (.st 3)))] (cat (ds 3) (cat [.one (.val (.int .i64))] (ds 20))), [], false⟩, fun k x => steeplelaw01_Same.l4 k x.1.1 x.1.2.1 x.1.2.2.1⟩]
theorem steeplelaw01_Same.ok (k : Nat) : Okf (XR E) Try.prog 29 (steeplelaw01_Same.sig k) := ⟨fn_ok (C := fun k => tab.ctx fun f => lk f (steeplelaw01_Same.calls k)) (fun k => tie _) k (fun j hj => calls_ok (kn)) 400 Try.func29 (body := steeplelaw01_Same.body) (res := [.tmp 4]) rfl (by kernel_rfl) steeplelaw01_Same.cuts (kc ⟨by kernel_rfl, rfl, fun _ => rfl, fun _ _ => by kernel_rfl⟩ (kn)) (fun x => by kernel_rfl), _, Try.func29, by kernel_rfl, by kernel_rfl⟩
/-! ### steeple/steepleref15.Value: function 31 -/
def steepleref15_Value.l3 : Nat → List S71 → List S71 → Int → Int → Int → Int → Int → Option S71
  | 0, _, _, _, _, _, _, _ => none
  | k + 1, x0, x1, x2, x3, x4, x5, x6 => if x2 < (x0.length : Int) then (if 0 ≤ x2 then (if x2 < (x0.length : Int) then ((steepleref15_Weight.f k x1 x2).bind fun r0 => (steepleref02_Product.f k (rd71 x0 x2) r0).bind fun r1 => (steepleref02_Add.f k (⟨x5, x6⟩ : S71) r1).bind fun r2 => steepleref15_Value.l3 k x0 x1 (wrap64 (x2 + 1)) x3 x4 r2.f0 r2.f1) else none) else none) else some (⟨x5, x6⟩ : S71)
def steepleref15_Value.f (k : Nat) (a0 : List S71) (a1 : List S71) : Option S71 := steepleref15_Value.l3 k a0 a1 0 0 0 0 0
def steepleref15_Value.sig (k : Nat) : Sig E.toTys := ⟨[.slice (.st 3), .slice (.st 3)], [(false, .st 3)], none, fun x => f k x.1 x.2.1⟩
noncomputable def steepleref15_Value.body : Code := Try.f31.body.getD .skip
def steepleref15_Value.calls (k : Nat) : List (Nat × Sig E.toTys) := [(63, steepleref15_Weight.sig k), (65, steepleref02_Product.sig k), (64, steepleref02_Add.sig k)]
def steepleref15_Value.cuts : List (Cut E (RT E.toTys [(false, .st 3)])) := [⟨true, 3, ⟨cat [.one (.val (.slice (.st 3))), .one (.val (.slice (.st 3)))] (cat (ds 2) (cat [.one (.ptr 0 0), .one (.ptr 1 0), .one (.val (.int .i64))] (ds 17))), [.var [.val (.int .u64), .val (.int .u64)], .var [.val (.int .u64), .val (.int .u64)]], false⟩, fun k x => steepleref15_Value.l3 k x.1.1 x.1.2.1 x.1.2.2.1 x.2.1.1 x.2.1.2.1 x.2.2.1.1 x.2.2.1.2.1⟩]
theorem steepleref15_Value.ok (k : Nat) : Okf (XR E) Try.prog 31 (steepleref15_Value.sig k) := ⟨fn_ok (C := fun k => tab.ctx fun f => lk f (steepleref15_Value.calls k)) (fun k => tie _) k (fun j hj => calls_ok (kc (steepleref15_Weight.ok j) (kc (steepleref02_Product.ok j) (kc (steepleref02_Add.ok j) (kn))))) 400 Try.func31 (body := steepleref15_Value.body) (res := [.cell 4 71]) rfl (by kernel_rfl) steepleref15_Value.cuts (kc ⟨by kernel_rfl, rfl, fun _ => rfl, fun _ _ => by kernel_rfl⟩ (kn)) (fun x => by kernel_rfl), _, Try.func31, by kernel_rfl, by kernel_rfl⟩
/-! ### steeple/steeplelaw23.RingMasks: function 6 -/
mutual
def steeplelaw23_RingMasks.j2 : Nat → Option Bool
  | 0 => none
  | k + 1 => (steeplelaw23_awake.f k).bind fun r0 => some r0
def steeplelaw23_RingMasks.j3 : Nat → Int → List S34 → List Bool → List S34 → List S34 → Option Bool
  | 0, _, _, _, _, _ => none
  | k + 1, x0, x1, _, x3, x4 => (steeplelaw01_Ref.f k x4).bind fun r1 => (steeplelaw01_Ref.f k x3).bind fun r2 => (ring_Mask.f k x0 x4 x3).bind fun r3 => (ring_At.f k x0 x4 x3 x1).bind fun r4 => (steepleref23_MayMask.f k x0 r1 r2).bind fun r5 => if r3.2 = r5 then (if r3.2 = 0 then ((steepleref23_Mask.f k x0 r1 r2).bind fun r6 => (steeplelaw01_Same.f k r3.1 r6).bind fun r7 => if (!r7) = true then some false else if (x1.length : Int) = (x4.length : Int) then ((steeplelaw01_Ref.f k x1).bind fun r8 => (steepleref06_All.f k x0 r8).bind fun r9 => if (!r9) = true then ((steeplelaw23_awake.f k).bind fun r10 => if r10 = true then (if r4.2 = 5 then some (decide (r4.1.f0 = 0 ∧ r4.1.f1 = 0)) else some false) else some false) else (steeplelaw23_awake.f k).bind fun r11 => if r11 = true then (if r4.2 = 0 then ((steeplelaw01_Ref.f k x1).bind fun r12 => (steepleref15_Value.f k r6 r12).bind fun r13 => some (decide (r4.1.f0 = r13.f0 ∧ r4.1.f1 = r13.f1))) else some false) else some false) else (steeplelaw23_awake.f k).bind fun r14 => if r14 = true then (if r4.2 = 6 then some (decide (r4.1.f0 = 0 ∧ r4.1.f1 = 0)) else some false) else some false) else (steeplelaw23_awake.f k).bind fun r15 => if r15 = true then (if r4.2 = r3.2 then (if (r3.1.length : Int) = 0 then some (decide (r4.1.f0 = 0 ∧ r4.1.f1 = 0)) else some false) else some false) else some false) else some false
end
def steeplelaw23_RingMasks.f (k : Nat) (a0 : Int) (a1 : S61) (a2 : List S34) : Option Bool := if a0 > 5 then (if a0 ≤ 7 then steeplelaw23_RingMasks.j2 k else if (a1.f2.length : Int) > 5 then (if (a1.f2.length : Int) ≤ 12 then steeplelaw23_RingMasks.j2 k else if (a1.f2.length : Int) > 20 then steeplelaw23_RingMasks.j2 k else if (a1.f1.length : Int) > 6 then steeplelaw23_RingMasks.j2 k else if (a2.length : Int) > 20 then steeplelaw23_RingMasks.j2 k else steeplelaw23_RingMasks.j3 k a0 a2 a1.f0 a1.f1 a1.f2) else if (a1.f2.length : Int) > 20 then steeplelaw23_RingMasks.j2 k else if (a1.f1.length : Int) > 6 then steeplelaw23_RingMasks.j2 k else if (a2.length : Int) > 20 then steeplelaw23_RingMasks.j2 k else steeplelaw23_RingMasks.j3 k a0 a2 a1.f0 a1.f1 a1.f2) else if (a1.f2.length : Int) > 5 then (if (a1.f2.length : Int) ≤ 12 then steeplelaw23_RingMasks.j2 k else if (a1.f2.length : Int) > 20 then steeplelaw23_RingMasks.j2 k else if (a1.f1.length : Int) > 6 then steeplelaw23_RingMasks.j2 k else if (a2.length : Int) > 20 then steeplelaw23_RingMasks.j2 k else steeplelaw23_RingMasks.j3 k a0 a2 a1.f0 a1.f1 a1.f2) else if (a1.f2.length : Int) > 20 then steeplelaw23_RingMasks.j2 k else if (a1.f1.length : Int) > 6 then steeplelaw23_RingMasks.j2 k else if (a2.length : Int) > 20 then steeplelaw23_RingMasks.j2 k else steeplelaw23_RingMasks.j3 k a0 a2 a1.f0 a1.f1 a1.f2
def steeplelaw23_RingMasks.sig (k : Nat) : Sig E.toTys := ⟨[.int .i64, .st 7, .slice (.st 1)], [(false, .bool)], none, fun x => f k x.1 x.2.1 x.2.2.1⟩
noncomputable def steeplelaw23_RingMasks.body : Code := Try.f6.body.getD .skip
def steeplelaw23_RingMasks.calls (k : Nat) : List (Nat × Sig E.toTys) := [(23, steeplelaw23_awake.sig k), (24, steeplelaw01_Ref.sig k), (25, ring_Mask.sig k), (26, ring_At.sig k), (27, steepleref23_MayMask.sig k), (28, steepleref23_Mask.sig k), (29, steeplelaw01_Same.sig k), (30, steepleref06_All.sig k), (31, steepleref15_Value.sig k)]
def steeplelaw23_RingMasks.cuts : List (Cut E (RT E.toTys [(false, .bool)])) := [⟨false, 2, ⟨ds 153, [], false⟩, fun k x => steeplelaw23_RingMasks.j2 k⟩,
  ⟨false, 3, ⟨cat [.one (.val (.int .i64))] (cat (ds 1) (cat [.one (.val (.slice (.st 1)))] (cat (ds 1) (cat [.one (.ptr 0 0)] (ds 148))))), [.var [.val (.slice .bool), .val (.slice (.st 1)), .val (.slice (.st 1))]], false⟩, fun k x => steeplelaw23_RingMasks.j3 k x.1.1 x.1.2.1 x.2.1.1 x.2.1.2.1 x.2.1.2.2.1⟩]
theorem steeplelaw23_RingMasks.ok (k : Nat) : Okf (XR E) Try.prog 6 (steeplelaw23_RingMasks.sig k) := ⟨fn_ok (C := fun k => tab.ctx fun f => lk f (steeplelaw23_RingMasks.calls k)) (fun k => tie _) k (fun j hj => calls_ok (kc (steeplelaw23_awake.ok j) (kc (steeplelaw01_Ref.ok j) (kc (ring_Mask.ok j) (kc (ring_At.ok j) (kc (steepleref23_MayMask.ok j) (kc (steepleref23_Mask.ok j) (kc (steeplelaw01_Same.ok j) (kc (steepleref06_All.ok j) (kc (steepleref15_Value.ok j) (kn))))))))))) 400 Try.func6 (body := steeplelaw23_RingMasks.body) (res := [.tmp 6]) rfl (by kernel_rfl) steeplelaw23_RingMasks.cuts (kc ⟨by kernel_rfl, rfl, fun _ => rfl, fun _ _ => by kernel_rfl⟩ (kc ⟨by kernel_rfl, rfl, fun _ => rfl, fun _ _ => by kernel_rfl⟩ (kn))) (fun x => by kernel_rfl), _, Try.func6, by kernel_rfl, by kernel_rfl⟩
/-! ### steeple/steeplelaw04.few: function 67 -/
def steeplelaw04_few.l3 : Nat → List Int → Int → List S34 → Option (List S34)
  | 0, _, _, _ => none
  | k + 1, x0, x1, x2 => if x1 < (x0.length : Int) then (if 0 ≤ x1 then (if x1 < (x0.length : Int) then (if x2.length + [(⟨0, rdI x0 x1⟩ : S34)].length ≤ 140737488355328 / 16 then steeplelaw04_few.l3 k x0 (wrap64 (x1 + 1)) (x2 ++ [(⟨0, rdI x0 x1⟩ : S34)]) else none) else none) else none) else some x2
def steeplelaw04_few.f (k : Nat) (a0 : List Int) : Option (List S34) := steeplelaw04_few.l3 k a0 0 []
def steeplelaw04_few.sig (k : Nat) : Sig E.toTys := ⟨[.slice (.int .u64)], [(true, .slice (.st 1))], none, fun x => f k x.1⟩
noncomputable def steeplelaw04_few.body : Code := Try.f67.body.getD .skip
def steeplelaw04_few.calls (k : Nat) : List (Nat × Sig E.toTys) := []
def steeplelaw04_few.cuts : List (Cut E (RT E.toTys [(true, .slice (.st 1))])) := [⟨true, 3, ⟨cat [.one (.val (.slice (.int .u64)))] (cat (ds 2) (cat [.one (.ref 0), .one (.val (.int .i64))] (ds 15))), [.arr (.st 1)], false⟩, fun k x => steeplelaw04_few.l3 k x.1.1 x.1.2.1 x.2.1⟩]
theorem steeplelaw04_few.ok (k : Nat) : Okf (XR E) Try.prog 67 (steeplelaw04_few.sig k) := ⟨fn_ok (C := fun k => tab.ctx fun f => lk f (steeplelaw04_few.calls k)) (fun k => tie _) k (fun j hj => calls_ok (kn)) 400 Try.func67 (body := steeplelaw04_few.body) (res := [.tmp 2]) rfl (by kernel_rfl) steeplelaw04_few.cuts (kc ⟨by kernel_rfl, rfl, fun _ => rfl, fun _ _ => by kernel_rfl⟩ (kn)) (fun x => by kernel_rfl), _, Try.func67, by kernel_rfl, by kernel_rfl⟩
/-! ### steeple/span.within$1: function 132 -/
def span_within_1.f (k : Nat) (a0 : S34) (a1 : Option Int) : Option Bool := (span_lead.f k a0).bind fun r0 => (match a1 with | none => none | some r1 => some (decide (r0 ≥ r1)))
def span_within_1.sig (k : Nat) : Sig E.toTys := ⟨[.st 1, .ptr (.int .i64)], [(false, .bool)], none, fun x => f k x.1 x.2.1⟩
noncomputable def span_within_1.body : Code := Try.f132.body.getD .skip
def span_within_1.calls (k : Nat) : List (Nat × Sig E.toTys) := [(96, span_lead.sig k)]
def span_within_1.cuts : List (Cut E (RT E.toTys [(false, .bool)])) := []
theorem span_within_1.ok (k : Nat) : Okf (XR E) Try.prog 132 (span_within_1.sig k) := ⟨fn_ok (C := fun k => tab.ctx fun f => lk f (span_within_1.calls k)) (fun k => tie _) k (fun j hj => calls_ok (kc (span_lead.ok j) (kn))) 400 Try.func132 (body := span_within_1.body) (res := [.tmp 3]) rfl (by kernel_rfl) span_within_1.cuts (kn) (fun x => by kernel_rfl), _, Try.func132, by kernel_rfl, by kernel_rfl⟩
/-! ### slices.IndexFunc: function 125 -/
def slices_IndexFunc125_c132.l2 : Nat → List S34 → Int → Int → Int → Option Int
  | 0, _, _, _, _ => none
  | k + 1, x0, x1, x2, x3 => if x3 < x2 then (if 0 ≤ x3 then (if x3 < (x0.length : Int) then ((span_within_1.f k (rd34 x0 x3) (some x1)).bind fun r0 => if r0 = true then some x3 else slices_IndexFunc125_c132.l2 k x0 x1 x2 (wrap64 (x3 + 1))) else none) else none) else some (-1)
def slices_IndexFunc125_c132.f (k : Nat) (a0 : List S34) (a1 : Int) : Option Int := slices_IndexFunc125_c132.l2 k a0 a1 (a0.length : Int) 0
def slices_IndexFunc125_c132.sig (k : Nat) : Sig E.toTys := ⟨[.slice (.st 1), .ext 132 (.int .i64)], [(false, .int .i64)], none, fun x => f k x.1 x.2.1⟩
noncomputable def slices_IndexFunc125_c132.body : Code := Try.f125.body.getD .skip
def slices_IndexFunc125_c132.calls (k : Nat) : List (Nat × Sig E.toTys) := [(132, span_within_1.sig k)]
def slices_IndexFunc125_c132.cuts : List (Cut E (RT E.toTys [(false, .int .i64)])) := [⟨true, 2, ⟨cat [.one (.val (.slice (.st 1))), .one (.val (.ext 132 (.int .i64)))] (cat (ds 5) (cat [.one (.val (.int .i64)), .one (.val (.int .i64))] (ds 10))), [], false⟩, fun k x => slices_IndexFunc125_c132.l2 k x.1.1 x.1.2.1 x.1.2.2.1 x.1.2.2.2.1⟩]
theorem slices_IndexFunc125_c132.ok (k : Nat) : Okf (XR E) Try.prog 125 (slices_IndexFunc125_c132.sig k) := ⟨fn_ok (C := fun k => tab.ctx fun f => lk f (slices_IndexFunc125_c132.calls k)) (fun k => tie _) k (fun j hj => calls_ok (kc (span_within_1.ok j) (kn))) 400 Try.func125 (body := slices_IndexFunc125_c132.body) (res := [.tmp 4]) rfl (by kernel_rfl) slices_IndexFunc125_c132.cuts (kc ⟨by kernel_rfl, rfl, fun _ => rfl, fun _ _ => by kernel_rfl⟩ (kn)) (fun x => by kernel_rfl), _, Try.func125, by kernel_rfl, by kernel_rfl⟩
/-! ### slices.ContainsFunc: function 98 -/
def slices_ContainsFunc98_c132.f (k : Nat) (a0 : List S34) (a1 : Int) : Option Bool := (slices_IndexFunc125_c132.f k a0 a1).bind fun r0 => some (decide (r0 ≥ 0))
def slices_ContainsFunc98_c132.sig (k : Nat) : Sig E.toTys := ⟨[.slice (.st 1), .ext 132 (.int .i64)], [(false, .bool)], none, fun x => f k x.1 x.2.1⟩
noncomputable def slices_ContainsFunc98_c132.body : Code := Try.f98.body.getD .skip
def slices_ContainsFunc98_c132.calls (k : Nat) : List (Nat × Sig E.toTys) := [(125, slices_IndexFunc125_c132.sig k)]
def slices_ContainsFunc98_c132.cuts : List (Cut E (RT E.toTys [(false, .bool)])) := []
theorem slices_ContainsFunc98_c132.ok (k : Nat) : Okf (XR E) Try.prog 98 (slices_ContainsFunc98_c132.sig k) := ⟨fn_ok (C := fun k => tab.ctx fun f => lk f (slices_ContainsFunc98_c132.calls k)) (fun k => tie _) k (fun j hj => calls_ok (kc (slices_IndexFunc125_c132.ok j) (kn))) 400 Try.func98 (body := slices_ContainsFunc98_c132.body) (res := [.tmp 4]) rfl (by kernel_rfl) slices_ContainsFunc98_c132.cuts (kn) (fun x => by kernel_rfl), _, Try.func98, by kernel_rfl, by kernel_rfl⟩
/-! ### steeple/span.within: function 108 -/
def span_within.f (k : Nat) (a0 : List S34) (a1 : Int) : Option Bool := (slices_ContainsFunc98_c132.f k a0 a1).bind fun r0 => some (!r0)
def span_within.sig (k : Nat) : Sig E.toTys := ⟨[.slice (.st 1), .int .i64], [(false, .bool)], none, fun x => f k x.1 x.2.1⟩
noncomputable def span_within.body : Code := Try.f108.body.getD .skip
def span_within.calls (k : Nat) : List (Nat × Sig E.toTys) := [(98, slices_ContainsFunc98_c132.sig k)]
def span_within.cuts : List (Cut E (RT E.toTys [(false, .bool)])) := []
theorem span_within.ok (k : Nat) : Okf (XR E) Try.prog 108 (span_within.sig k) := ⟨fn_ok (C := fun k => tab.ctx fun f => lk f (span_within.calls k)) (fun k => tie _) k (fun j hj => calls_ok (kc (slices_ContainsFunc98_c132.ok j) (kn))) 400 Try.func108 (body := span_within.body) (res := [.tmp 4]) rfl (by kernel_rfl) span_within.cuts (kn) (fun x => by kernel_rfl), _, Try.func108, by kernel_rfl, by kernel_rfl⟩
/-! ### steeple/span.Turn: function 66 -/
mutual
def span_Turn.l7 : Nat → Int → List S34 → Int → Int → List S34 → Option ((List S34) × Int)
  | 0, _, _, _, _, _ => none
  | k + 1, x0, x1, x2, x3, x4 => if x3 < x2 then (if 0 ≤ x3 then (if x3 < (x1.length : Int) then span_Turn.l10 k x0 x3 x1 x2 x3 x0 0 x4 (rd34 x1 x3).f0 (rd34 x1 x3).f1 else none) else none) else some (x4, 0)
def span_Turn.l10 : Nat → Int → Int → List S34 → Int → Int → Int → Int → List S34 → Int → Int → Option ((List S34) × Int)
  | 0, _, _, _, _, _, _, _, _, _, _ => none
  | k + 1, x0, x1, x2, x3, x4, x5, x6, x7, x8, x9 => if x6 < x5 then ((span_has.f k (⟨x8, x9⟩ : S34) x6).bind fun r1 => if r1 = true then (if 0 ≤ x6 then (if x6 < (x7.length : Int) then ((tower_Bit.f k x1).bind fun r2 => (tower_Add.f k (rd34 x7 x6) r2).bind fun r3 => if 0 ≤ x6 then (if x6 < (x7.length : Int) then span_Turn.l10 k x0 x1 x2 x3 x4 x5 (wrap64 (x6 + 1)) (x7.set (Int.toNat x6) r3) x8 x9 else none) else none) else none) else none) else span_Turn.l10 k x0 x1 x2 x3 x4 x5 (wrap64 (x6 + 1)) x7 x8 x9) else span_Turn.l7 k x0 x2 x3 (wrap64 (x4 + 1)) x7
end
def span_Turn.f (k : Nat) (a0 : List S34) (a1 : Int) : Option ((List S34) × Int) := if (a0.length : Int) > 128 then some ([], 1) else if a1 < 0 then some ([], 1) else if a1 > 128 then some ([], 1) else (span_within.f k a0 a1).bind fun r0 => if (!r0) = true then some ([], 6) else if 0 ≤ a1 then (if a1 ≤ 140737488355328 / ((16 : Nat) : Int) then span_Turn.l7 k a1 a0 (a0.length : Int) 0 (List.replicate (Int.toNat a1) z34) else none) else none
def span_Turn.sig (k : Nat) : Sig E.toTys := ⟨[.slice (.st 1), .int .i64], [(true, .slice (.st 1)), (false, .int .i64)], none, fun x => f k x.1 x.2.1⟩
noncomputable def span_Turn.body : Code := Try.f66.body.getD .skip
def span_Turn.calls (k : Nat) : List (Nat × Sig E.toTys) := [(108, span_within.sig k), (109, span_has.sig k), (110, tower_Bit.sig k), (49, tower_Add.sig k)]
def span_Turn.cuts : List (Cut E (RT E.toTys [(true, .slice (.st 1)), (false, .int .i64)])) := [⟨true, 7, ⟨cat (ds 1) (cat [.one (.val (.int .i64))] (cat (ds 4) (cat [.one (.ref 0)] (cat (ds 22) (cat [.one (.val (.slice (.st 1))), .one (.val (.int .i64)), .one (.val (.int .i64))] (ds 24)))))), [.arr (.st 1)], false⟩, fun k x => span_Turn.l7 k x.1.1 x.1.2.1 x.1.2.2.1 x.1.2.2.2.1 x.2.1⟩,
  ⟨true, 10, ⟨cat (ds 1) (cat [.one (.val (.int .i64))] (cat (ds 4) (cat [.one (.ref 0), .one (.val (.int .i64)), .one (.ptr 1 0)] (cat (ds 20) (cat [.one (.val (.slice (.st 1))), .one (.val (.int .i64)), .one (.val (.int .i64))] (cat (ds 4) (cat [.one (.val (.int .i64)), .one (.val (.int .i64))] (ds 18)))))))), [.arr (.st 1), .var [.val (.int .u64), .val (.int .u64)]], false⟩, fun k x => span_Turn.l10 k x.1.1 x.1.2.1 x.1.2.2.1 x.1.2.2.2.1 x.1.2.2.2.2.1 x.1.2.2.2.2.2.1 x.1.2.2.2.2.2.2.1 x.2.1 x.2.2.1.1 x.2.2.1.2.1⟩]
theorem span_Turn.ok (k : Nat) : Okf (XR E) Try.prog 66 (span_Turn.sig k) := ⟨fn_ok (C := fun k => tab.ctx fun f => lk f (span_Turn.calls k)) (fun k => tie _) k (fun j hj => calls_ok (kc (span_within.ok j) (kc (span_has.ok j) (kc (tower_Bit.ok j) (kc (tower_Add.ok j) (kn)))))) 400 Try.func66 (body := span_Turn.body) (res := [.tmp 4, .tmp 5]) rfl (by kernel_rfl) span_Turn.cuts (kc ⟨by kernel_rfl, rfl, fun _ => rfl, fun _ _ => by kernel_rfl⟩ (kc ⟨by kernel_rfl, rfl, fun _ => rfl, fun _ _ => by kernel_rfl⟩ (kn))) (fun x => by kernel_rfl), _, Try.func66, by kernel_rfl, by kernel_rfl⟩
/-! ### steeple/span.less: function 71 -/
def span_less.l2 : Nat → List S34 → Int → Int → Int → Int → Int → Int → Option S34
  | 0, _, _, _, _, _, _, _ => none
  | k + 1, x0, x1, x2, x3, x4, x5, x6 => if x2 < x1 then (if 0 ≤ x2 then (if x2 < (x0.length : Int) then ((span_lead.f k (rd34 x0 x2)).bind fun r0 => (span_has.f k (⟨x3, x4⟩ : S34) r0).bind fun r1 => if r1 = true then ((tower_Add.f k (⟨x3, x4⟩ : S34) (rd34 x0 x2)).bind fun r2 => span_less.l2 k x0 x1 (wrap64 (x2 + 1)) r2.f0 r2.f1 x5 x6) else span_less.l2 k x0 x1 (wrap64 (x2 + 1)) x3 x4 x5 x6) else none) else none) else some (⟨x3, x4⟩ : S34)
def span_less.f (k : Nat) (a0 : List S34) (a1 : S34) : Option S34 := span_less.l2 k a0 (a0.length : Int) 0 a1.f0 a1.f1 0 0
def span_less.sig (k : Nat) : Sig E.toTys := ⟨[.slice (.st 1), .st 1], [(false, .st 1)], none, fun x => f k x.1 x.2.1⟩
noncomputable def span_less.body : Code := Try.f71.body.getD .skip
def span_less.calls (k : Nat) : List (Nat × Sig E.toTys) := [(96, span_lead.sig k), (109, span_has.sig k), (49, tower_Add.sig k)]
def span_less.cuts : List (Cut E (RT E.toTys [(false, .st 1)])) := [⟨true, 2, ⟨cat (ds 3) (cat [.one (.ptr 0 0), .one (.ptr 1 0)] (cat (ds 2) (cat [.one (.val (.slice (.st 1))), .one (.val (.int .i64)), .one (.val (.int .i64))] (ds 12)))), [.var [.val (.int .u64), .val (.int .u64)], .var [.val (.int .u64), .val (.int .u64)]], false⟩, fun k x => span_less.l2 k x.1.1 x.1.2.1 x.1.2.2.1 x.2.1.1 x.2.1.2.1 x.2.2.1.1 x.2.2.1.2.1⟩]
theorem span_less.ok (k : Nat) : Okf (XR E) Try.prog 71 (span_less.sig k) := ⟨fn_ok (C := fun k => tab.ctx fun f => lk f (span_less.calls k)) (fun k => tie _) k (fun j hj => calls_ok (kc (span_lead.ok j) (kc (span_has.ok j) (kc (tower_Add.ok j) (kn))))) 400 Try.func71 (body := span_less.body) (res := [.cell 4 34]) rfl (by kernel_rfl) span_less.cuts (kc ⟨by kernel_rfl, rfl, fun _ => rfl, fun _ _ => by kernel_rfl⟩ (kn)) (fun x => by kernel_rfl), _, Try.func71, by kernel_rfl, by kernel_rfl⟩
/-! ### steeple/span.put$1: function 112 -/
def span_put_1.f (k : Nat) (a0 : S34) (a1 : S34) : Option Int := (span_lead.f k a1).bind fun r0 => (span_lead.f k a0).bind fun r1 => some (wrap64 (r0 - r1))
def span_put_1.sig (k : Nat) : Sig E.toTys := ⟨[.st 1, .st 1], [(false, .int .i64)], none, fun x => f k x.1 x.2.1⟩
noncomputable def span_put_1.body : Code := Try.f112.body.getD .skip
def span_put_1.calls (k : Nat) : List (Nat × Sig E.toTys) := [(96, span_lead.sig k)]
def span_put_1.cuts : List (Cut E (RT E.toTys [(false, .int .i64)])) := []
theorem span_put_1.ok (k : Nat) : Okf (XR E) Try.prog 112 (span_put_1.sig k) := ⟨fn_ok (C := fun k => tab.ctx fun f => lk f (span_put_1.calls k)) (fun k => tie _) k (fun j hj => calls_ok (kc (span_lead.ok j) (kn))) 400 Try.func112 (body := span_put_1.body) (res := [.tmp 4]) rfl (by kernel_rfl) span_put_1.cuts (kn) (fun x => by kernel_rfl), _, Try.func112, by kernel_rfl, by kernel_rfl⟩
/-! ### math/bits.Len: function 134 -/
def math_bits_Len.f (k : Nat) (a0 : Int) : Option Int := (math_bits_Len64.f k a0).bind fun r0 => some r0
def math_bits_Len.sig (k : Nat) : Sig E.toTys := ⟨[.int .u64], [(false, .int .i64)], none, fun x => f k x.1⟩
noncomputable def math_bits_Len.body : Code := Try.f134.body.getD .skip
def math_bits_Len.calls (k : Nat) : List (Nat × Sig E.toTys) := [(124, math_bits_Len64.sig k)]
def math_bits_Len.cuts : List (Cut E (RT E.toTys [(false, .int .i64)])) := []
theorem math_bits_Len.ok (k : Nat) : Okf (XR E) Try.prog 134 (math_bits_Len.sig k) := ⟨fn_ok (C := fun k => tab.ctx fun f => lk f (math_bits_Len.calls k)) (fun k => tie _) k (fun j hj => calls_ok (kc (math_bits_Len64.ok j) (kn))) 400 Try.func134 (body := math_bits_Len.body) (res := [.tmp 2]) rfl (by kernel_rfl) math_bits_Len.cuts (kn) (fun x => by kernel_rfl), _, Try.func134, by kernel_rfl, by kernel_rfl⟩
/-! ### slices.insertionSortCmpFunc: function 141 -/
mutual
def slices_insertionSortCmpFunc141_c112.l1 : Nat → Int → Int → Unit → Int → List S34 → Option (List S34)
  | 0, _, _, _, _, _ => none
  | k + 1, x0, x1, x2, x3, x4 => if x3 < x1 then slices_insertionSortCmpFunc141_c112.l4 k x0 x1 x2 x3 x3 x4 else some x4
def slices_insertionSortCmpFunc141_c112.l4 : Nat → Int → Int → Unit → Int → Int → List S34 → Option (List S34)
  | 0, _, _, _, _, _, _ => none
  | k + 1, x0, x1, x2, x3, x4, x5 => if x4 > x0 then (if 0 ≤ x4 then (if x4 < (x5.length : Int) then (if 0 ≤ wrap64 (x4 - 1) then (if wrap64 (x4 - 1) < (x5.length : Int) then ((span_put_1.f k (rd34 x5 x4) (rd34 x5 (wrap64 (x4 - 1)))).bind fun r0 => if r0 < 0 then (if 0 ≤ wrap64 (x4 - 1) then (if wrap64 (x4 - 1) < (x5.length : Int) then (if 0 ≤ x4 then (if x4 < (x5.length : Int) then (if 0 ≤ x4 then (if x4 < (x5.length : Int) then (if 0 ≤ wrap64 (x4 - 1) then (if wrap64 (x4 - 1) < ((x5.set (Int.toNat x4) (rd34 x5 (wrap64 (x4 - 1)))).length : Int) then slices_insertionSortCmpFunc141_c112.l4 k x0 x1 x2 x3 (wrap64 (x4 - 1)) ((x5.set (Int.toNat x4) (rd34 x5 (wrap64 (x4 - 1)))).set (Int.toNat (wrap64 (x4 - 1))) (rd34 x5 x4)) else none) else none) else none) else none) else none) else none) else none) else none) else slices_insertionSortCmpFunc141_c112.l1 k x0 x1 x2 (wrap64 (x3 + 1)) x5) else none) else none) else none) else none) else slices_insertionSortCmpFunc141_c112.l1 k x0 x1 x2 (wrap64 (x3 + 1)) x5
end
def slices_insertionSortCmpFunc141_c112.f (k : Nat) (a0 : List S34) (a1 : Int) (a2 : Int) (a3 : Unit) : Option (List S34) := slices_insertionSortCmpFunc141_c112.l1 k a1 a2 a3 (wrap64 (a1 + 1)) a0
def slices_insertionSortCmpFunc141_c112.sig (k : Nat) : Sig E.toTys := ⟨[.slice (.st 1), .int .i64, .int .i64, .fnv 112], [(true, .slice (.st 1))], some 0, fun x => f k x.1 x.2.1 x.2.2.1 x.2.2.2.1⟩
noncomputable def slices_insertionSortCmpFunc141_c112.body : Code := Try.f141.body.getD .skip
def slices_insertionSortCmpFunc141_c112.calls (k : Nat) : List (Nat × Sig E.toTys) := [(112, span_put_1.sig k)]
def slices_insertionSortCmpFunc141_c112.cuts : List (Cut E (RT E.toTys [(true, .slice (.st 1))])) := [⟨true, 1, ⟨cat [.one (.ref 0), .one (.val (.int .i64)), .one (.val (.int .i64)), .one (.val (.fnv 112))] (cat (ds 4) (cat [.one (.val (.int .i64))] (ds 44))), [.arr (.st 1)], true⟩, fun k x => slices_insertionSortCmpFunc141_c112.l1 k x.1.1 x.1.2.1 x.1.2.2.1 x.1.2.2.2.1 x.2.1⟩,
  ⟨true, 4, ⟨cat [.one (.ref 0), .one (.val (.int .i64)), .one (.val (.int .i64)), .one (.val (.fnv 112))] (cat (ds 4) (cat [.one (.val (.int .i64)), .one (.val (.int .i64))] (ds 43))), [.arr (.st 1)], true⟩, fun k x => slices_insertionSortCmpFunc141_c112.l4 k x.1.1 x.1.2.1 x.1.2.2.1 x.1.2.2.2.1 x.1.2.2.2.2.1 x.2.1⟩]
theorem slices_insertionSortCmpFunc141_c112.ok (k : Nat) : Okf (XR E) Try.prog 141 (slices_insertionSortCmpFunc141_c112.sig k) := ⟨fn_okIO (C := fun k => tab.ctx fun f => lk f (slices_insertionSortCmpFunc141_c112.calls k)) (fun k => tie _) k (fun j hj => calls_ok (kc (span_put_1.ok j) (kn))) 400 0 Try.func141 (body := slices_insertionSortCmpFunc141_c112.body) (res := []) rfl (by kernel_rfl) slices_insertionSortCmpFunc141_c112.cuts (kc ⟨by kernel_rfl, rfl, fun _ => rfl, fun _ _ => by kernel_rfl⟩ (kc ⟨by kernel_rfl, rfl, fun _ => rfl, fun _ _ => by kernel_rfl⟩ (kn))) (fun x => by kernel_rfl), _, Try.func141, by kernel_rfl, by kernel_rfl⟩
/-! ### slices.pdqsortCmpFunc: function 133 -/
def slices_pdqsortCmpFunc133_c112.l2 : Nat → Int → Int → Int → Unit → Bool → Bool → List S34 → Option (List S34)
  | 0, _, _, _, _, _, _, _ => none
  | k + 1, x0, x1, x2, x3, x4, _, x6 => if wrap64 (x1 - x0) ≤ 12 then ((slices_insertionSortCmpFunc141_c112.f k x6 x0 x1 x3).bind fun r0 => some r0) else if x2 = 0 then none else if (!x4) = true then none else none
def slices_pdqsortCmpFunc133_c112.f (k : Nat) (a0 : List S34) (a1 : Int) (a2 : Int) (a3 : Int) (a4 : Unit) : Option (List S34) := slices_pdqsortCmpFunc133_c112.l2 k a1 a2 a3 a4 true true a0
def slices_pdqsortCmpFunc133_c112.sig (k : Nat) : Sig E.toTys := ⟨[.slice (.st 1), .int .i64, .int .i64, .int .i64, .fnv 112], [(true, .slice (.st 1))], some 0, fun x => f k x.1 x.2.1 x.2.2.1 x.2.2.2.1 x.2.2.2.2.1⟩
noncomputable def slices_pdqsortCmpFunc133_c112.body : Code := Try.f133.body.getD .skip
def slices_pdqsortCmpFunc133_c112.calls (k : Nat) : List (Nat × Sig E.toTys) := [(141, slices_insertionSortCmpFunc141_c112.sig k)]
def slices_pdqsortCmpFunc133_c112.cuts : List (Cut E (RT E.toTys [(true, .slice (.st 1))])) := [⟨true, 2, ⟨cat [.one (.ref 0), .one (.val (.int .i64)), .one (.val (.int .i64)), .one (.val (.int .i64)), .one (.val (.fnv 112))] (cat (ds 5) (cat [.one (.val (.bool)), .one (.val (.bool))] (ds 136))), [.arr (.st 1)], true⟩, fun k x => slices_pdqsortCmpFunc133_c112.l2 k x.1.1 x.1.2.1 x.1.2.2.1 x.1.2.2.2.1 x.1.2.2.2.2.1 x.1.2.2.2.2.2.1 x.2.1⟩]
theorem slices_pdqsortCmpFunc133_c112.ok (k : Nat) : Okf (XR E) Try.prog 133 (slices_pdqsortCmpFunc133_c112.sig k) := ⟨fn_okIO (C := fun k => tab.ctx fun f => lk f (slices_pdqsortCmpFunc133_c112.calls k)) (fun k => tie _) k (fun j hj => calls_ok (kc (slices_insertionSortCmpFunc141_c112.ok j) (kn))) 400 0 Try.func133 (body := slices_pdqsortCmpFunc133_c112.body) (res := []) rfl (by kernel_rfl) slices_pdqsortCmpFunc133_c112.cuts (kc ⟨by kernel_rfl, rfl, fun _ => rfl, fun _ _ => by kernel_rfl⟩ (kn)) (fun x => by kernel_rfl), _, Try.func133, by kernel_rfl, by kernel_rfl⟩
/-! ### slices.SortFunc: function 111 -/
def slices_SortFunc111_c112.f (k : Nat) (a0 : List S34) (a1 : Unit) : Option (List S34) := (math_bits_Len.f k (IntKind.u64.wrap (a0.length : Int))).bind fun r0 => (slices_pdqsortCmpFunc133_c112.f k a0 0 (a0.length : Int) r0 a1).bind fun r1 => some r1
def slices_SortFunc111_c112.sig (k : Nat) : Sig E.toTys := ⟨[.slice (.st 1), .fnv 112], [(true, .slice (.st 1))], some 0, fun x => f k x.1 x.2.1⟩
noncomputable def slices_SortFunc111_c112.body : Code := Try.f111.body.getD .skip
def slices_SortFunc111_c112.calls (k : Nat) : List (Nat × Sig E.toTys) := [(134, math_bits_Len.sig k), (133, slices_pdqsortCmpFunc133_c112.sig k)]
def slices_SortFunc111_c112.cuts : List (Cut E (RT E.toTys [(true, .slice (.st 1))])) := []
theorem slices_SortFunc111_c112.ok (k : Nat) : Okf (XR E) Try.prog 111 (slices_SortFunc111_c112.sig k) := ⟨fn_okIO (C := fun k => tab.ctx fun f => lk f (slices_SortFunc111_c112.calls k)) (fun k => tie _) k (fun j hj => calls_ok (kc (math_bits_Len.ok j) (kc (slices_pdqsortCmpFunc133_c112.ok j) (kn)))) 400 0 Try.func111 (body := slices_SortFunc111_c112.body) (res := []) rfl (by kernel_rfl) slices_SortFunc111_c112.cuts (kn) (fun x => by kernel_rfl), _, Try.func111, by kernel_rfl, by kernel_rfl⟩
/-! ### steeple/span.put: function 70 -/
def span_put.l6 : Nat → List S34 → Int → Int → Int → Int → List S34 → Option (List S34)
  | 0, _, _, _, _, _, _ => none
  | k + 1, x0, x1, x2, x3, x4, x5 => if x2 < x1 then (if 0 ≤ x2 then (if x2 < (x0.length : Int) then ((span_lead.f k (⟨x3, x4⟩ : S34)).bind fun r1 => (span_has.f k (rd34 x0 x2) r1).bind fun r2 => if r2 = true then ((tower_Add.f k (rd34 x0 x2) (⟨x3, x4⟩ : S34)).bind fun r3 => if x5.length + [r3].length ≤ 140737488355328 / 16 then span_put.l6 k x0 x1 (wrap64 (x2 + 1)) x3 x4 (x5 ++ [r3]) else none) else if x5.length + [rd34 x0 x2].length ≤ 140737488355328 / 16 then span_put.l6 k x0 x1 (wrap64 (x2 + 1)) x3 x4 (x5 ++ [rd34 x0 x2]) else none) else none) else none) else if x5.length + [(⟨x3, x4⟩ : S34)].length ≤ 140737488355328 / 16 then ((slices_SortFunc111_c112.f k (x5 ++ [(⟨x3, x4⟩ : S34)]) ()).bind fun r4 => some r4) else none
def span_put.f (k : Nat) (a0 : List S34) (a1 : S34) : Option (List S34) := (span_less.f k a0 a1).bind fun r0 => if r0.f0 = 0 ∧ r0.f1 = 0 then some a0 else span_put.l6 k a0 (a0.length : Int) 0 r0.f0 r0.f1 []
def span_put.sig (k : Nat) : Sig E.toTys := ⟨[.slice (.st 1), .st 1], [(false, .slice (.st 1))], none, fun x => f k x.1 x.2.1⟩
noncomputable def span_put.body : Code := Try.f70.body.getD .skip
def span_put.calls (k : Nat) : List (Nat × Sig E.toTys) := [(71, span_less.sig k), (96, span_lead.sig k), (109, span_has.sig k), (49, tower_Add.sig k), (111, slices_SortFunc111_c112.sig k)]
def span_put.cuts : List (Cut E (RT E.toTys [(false, .slice (.st 1))])) := [⟨true, 6, ⟨cat (ds 3) (cat [.one (.ptr 0 0)] (cat (ds 1) (cat [.one (.ref 1)] (cat (ds 9) (cat [.one (.val (.slice (.st 1))), .one (.val (.int .i64)), .one (.val (.int .i64))] (ds 22)))))), [.var [.val (.int .u64), .val (.int .u64)], .arr (.st 1)], false⟩, fun k x => span_put.l6 k x.1.1 x.1.2.1 x.1.2.2.1 x.2.1.1 x.2.1.2.1 x.2.2.1⟩]
theorem span_put.ok (k : Nat) : Okf (XR E) Try.prog 70 (span_put.sig k) := ⟨fn_ok (C := fun k => tab.ctx fun f => lk f (span_put.calls k)) (fun k => tie _) k (fun j hj => calls_ok (kc (span_less.ok j) (kc (span_lead.ok j) (kc (span_has.ok j) (kc (tower_Add.ok j) (kc (slices_SortFunc111_c112.ok j) (kn))))))) 400 Try.func70 (body := span_put.body) (res := [.tmp 4]) rfl (by kernel_rfl) span_put.cuts (kc ⟨by kernel_rfl, rfl, fun _ => rfl, fun _ _ => by kernel_rfl⟩ (kn)) (fun x => by kernel_rfl), _, Try.func70, by kernel_rfl, by kernel_rfl⟩
/-! ### steeple/span.Basis: function 34 -/
def span_Basis.l3 : Nat → List S34 → List S34 → Int → Int → Option (List S34)
  | 0, _, _, _, _ => none
  | k + 1, x0, x1, x2, x3 => if x3 < x2 then (if 0 ≤ x3 then (if x3 < (x1.length : Int) then ((span_put.f k x0 (rd34 x1 x3)).bind fun r0 => span_Basis.l3 k r0 x1 x2 (wrap64 (x3 + 1))) else none) else none) else some x0
def span_Basis.f (k : Nat) (a0 : List S34) : Option (List S34) := span_Basis.l3 k [] a0 (a0.length : Int) 0
def span_Basis.sig (k : Nat) : Sig E.toTys := ⟨[.slice (.st 1)], [(false, .slice (.st 1))], none, fun x => f k x.1⟩
noncomputable def span_Basis.body : Code := Try.f34.body.getD .skip
def span_Basis.calls (k : Nat) : List (Nat × Sig E.toTys) := [(70, span_put.sig k)]
def span_Basis.cuts : List (Cut E (RT E.toTys [(false, .slice (.st 1))])) := [⟨true, 3, ⟨cat (ds 3) (cat [.one (.val (.slice (.st 1)))] (cat (ds 2) (cat [.one (.val (.slice (.st 1))), .one (.val (.int .i64)), .one (.val (.int .i64))] (ds 8)))), [], false⟩, fun k x => span_Basis.l3 k x.1.1 x.1.2.1 x.1.2.2.1 x.1.2.2.2.1⟩]
theorem span_Basis.ok (k : Nat) : Okf (XR E) Try.prog 34 (span_Basis.sig k) := ⟨fn_ok (C := fun k => tab.ctx fun f => lk f (span_Basis.calls k)) (fun k => tie _) k (fun j hj => calls_ok (kc (span_put.ok j) (kn))) 400 Try.func34 (body := span_Basis.body) (res := [.tmp 2]) rfl (by kernel_rfl) span_Basis.cuts (kc ⟨by kernel_rfl, rfl, fun _ => rfl, fun _ _ => by kernel_rfl⟩ (kn)) (fun x => by kernel_rfl), _, Try.func34, by kernel_rfl, by kernel_rfl⟩
/-! ### steeple/steeplelaw04.awake: function 32 -/
def steeplelaw04_awake.f (k : Nat) : Option Bool := (steeplelaw04_few.f k [1, 3]).bind fun r0 => (span_Turn.f k r0 2).bind fun r1 => (steeplelaw04_few.f k [3, 5, 6]).bind fun r2 => (span_Basis.f k r2).bind fun r3 => (steeplelaw04_few.f k [5, 3]).bind fun r4 => (steeplelaw01_Ref.f k r4).bind fun r5 => (steeplelaw01_Same.f k r3 r5).bind fun r6 => if r6 = true then (if r1.2 = 0 then ((steeplelaw04_few.f k [3, 2]).bind fun r7 => (steeplelaw01_Ref.f k r7).bind fun r8 => (steeplelaw01_Same.f k r1.1 r8).bind fun r9 => some r9) else some false) else some false
def steeplelaw04_awake.sig (k : Nat) : Sig E.toTys := ⟨[], [(false, .bool)], none, fun x => f k⟩
noncomputable def steeplelaw04_awake.body : Code := Try.f32.body.getD .skip
def steeplelaw04_awake.calls (k : Nat) : List (Nat × Sig E.toTys) := [(67, steeplelaw04_few.sig k), (66, span_Turn.sig k), (34, span_Basis.sig k), (24, steeplelaw01_Ref.sig k), (29, steeplelaw01_Same.sig k)]
def steeplelaw04_awake.cuts : List (Cut E (RT E.toTys [(false, .bool)])) := []
theorem steeplelaw04_awake.ok (k : Nat) : Okf (XR E) Try.prog 32 (steeplelaw04_awake.sig k) := ⟨fn_ok (C := fun k => tab.ctx fun f => lk f (steeplelaw04_awake.calls k)) (fun k => tie _) k (fun j hj => calls_ok (kc (steeplelaw04_few.ok j) (kc (span_Turn.ok j) (kc (span_Basis.ok j) (kc (steeplelaw01_Ref.ok j) (kc (steeplelaw01_Same.ok j) (kn))))))) 400 Try.func32 (body := steeplelaw04_awake.body) (res := [.tmp 0]) rfl (by kernel_rfl) steeplelaw04_awake.cuts (kn) (fun x => by kernel_rfl), _, Try.func32, by kernel_rfl, by kernel_rfl⟩
/-! ### steeple/steepleref04.in: function 68 -/
def steepleref04_in.l2 : Nat → List Int → Int → Int → Option Bool
  | 0, _, _, _ => none
  | k + 1, x0, x1, x2 => if x2 < (x0.length : Int) then (if 0 ≤ x2 then (if x2 < (x0.length : Int) then (if rdI x0 x2 = x1 then some true else steepleref04_in.l2 k x0 x1 (wrap64 (x2 + 1))) else none) else none) else some false
def steepleref04_in.f (k : Nat) (a0 : List Int) (a1 : Int) : Option Bool := steepleref04_in.l2 k a0 a1 0
def steepleref04_in.sig (k : Nat) : Sig E.toTys := ⟨[.slice (.int .i64), .int .i64], [(false, .bool)], none, fun x => f k x.1 x.2.1⟩
noncomputable def steepleref04_in.body : Code := Try.f68.body.getD .skip
def steepleref04_in.calls (k : Nat) : List (Nat × Sig E.toTys) := []
def steepleref04_in.cuts : List (Cut E (RT E.toTys [(false, .bool)])) := [⟨true, 2, ⟨cat [.one (.val (.slice (.int .i64))), .one (.val (.int .i64))] (cat (ds 3) (cat [.one (.val (.int .i64))] (ds 12))), [], false⟩, fun k x => steepleref04_in.l2 k x.1.1 x.1.2.1 x.1.2.2.1⟩]
theorem steepleref04_in.ok (k : Nat) : Okf (XR E) Try.prog 68 (steepleref04_in.sig k) := ⟨fn_ok (C := fun k => tab.ctx fun f => lk f (steepleref04_in.calls k)) (fun k => tie _) k (fun j hj => calls_ok (kn)) 400 Try.func68 (body := steepleref04_in.body) (res := [.tmp 4]) rfl (by kernel_rfl) steepleref04_in.cuts (kc ⟨by kernel_rfl, rfl, fun _ => rfl, fun _ _ => by kernel_rfl⟩ (kn)) (fun x => by kernel_rfl), _, Try.func68, by kernel_rfl, by kernel_rfl⟩
/-! ### steeple/steepleref04.clear: function 69 -/
mutual
def steepleref04_clear.l3 : Nat → List S71 → Int → Int → Int → List S71 → Option (List S71)
  | 0, _, _, _, _, _ => none
  | k + 1, x0, x1, x2, x3, x4 => if x3 < (x0.length : Int) then (if x3 = x1 then steepleref04_clear.j7 k x0 x1 x2 x3 x4 else if 0 ≤ x3 then (if x3 < (x0.length : Int) then ((steepleref02_Has.f k (rd71 x0 x3) x2).bind fun r0 => if r0 = true then (if 0 ≤ x3 then (if x3 < (x0.length : Int) then (if 0 ≤ x1 then (if x1 < (x0.length : Int) then ((steepleref02_Add.f k (rd71 x0 x3) (rd71 x0 x1)).bind fun r1 => if x4.length + [r1].length ≤ 140737488355328 / 16 then steepleref04_clear.j4 k x0 x1 x2 x3 (x4 ++ [r1]) else none) else none) else none) else none) else none) else steepleref04_clear.j7 k x0 x1 x2 x3 x4) else none) else none) else some x4
def steepleref04_clear.j7 : Nat → List S71 → Int → Int → Int → List S71 → Option (List S71)
  | 0, _, _, _, _, _ => none
  | k + 1, x0, x1, x2, x3, x4 => if 0 ≤ x3 then (if x3 < (x0.length : Int) then (if x4.length + [rd71 x0 x3].length ≤ 140737488355328 / 16 then steepleref04_clear.j4 k x0 x1 x2 x3 (x4 ++ [rd71 x0 x3]) else none) else none) else none
def steepleref04_clear.j4 : Nat → List S71 → Int → Int → Int → List S71 → Option (List S71)
  | 0, _, _, _, _, _ => none
  | k + 1, x0, x1, x2, x3, x4 => steepleref04_clear.l3 k x0 x1 x2 (wrap64 (x3 + 1)) x4
end
def steepleref04_clear.f (k : Nat) (a0 : List S71) (a1 : Int) (a2 : Int) : Option (List S71) := steepleref04_clear.l3 k a0 a1 a2 0 []
def steepleref04_clear.sig (k : Nat) : Sig E.toTys := ⟨[.slice (.st 3), .int .i64, .int .i64], [(true, .slice (.st 3))], none, fun x => f k x.1 x.2.1 x.2.2.1⟩
noncomputable def steepleref04_clear.body : Code := Try.f69.body.getD .skip
def steepleref04_clear.calls (k : Nat) : List (Nat × Sig E.toTys) := [(40, steepleref02_Has.sig k), (64, steepleref02_Add.sig k)]
def steepleref04_clear.cuts : List (Cut E (RT E.toTys [(true, .slice (.st 3))])) := [⟨true, 3, ⟨cat [.one (.val (.slice (.st 3))), .one (.val (.int .i64)), .one (.val (.int .i64))] (cat (ds 4) (cat [.one (.ref 0), .one (.val (.int .i64))] (ds 37))), [.arr (.st 3)], false⟩, fun k x => steepleref04_clear.l3 k x.1.1 x.1.2.1 x.1.2.2.1 x.1.2.2.2.1 x.2.1⟩,
  ⟨false, 7, ⟨cat [.one (.val (.slice (.st 3))), .one (.val (.int .i64)), .one (.val (.int .i64))] (cat (ds 4) (cat [.one (.ref 0), .one (.val (.int .i64))] (ds 37))), [.arr (.st 3)], false⟩, fun k x => steepleref04_clear.j7 k x.1.1 x.1.2.1 x.1.2.2.1 x.1.2.2.2.1 x.2.1⟩,
  ⟨false, 4, ⟨cat [.one (.val (.slice (.st 3))), .one (.val (.int .i64)), .one (.val (.int .i64))] (cat (ds 4) (cat [.one (.ref 0), .one (.val (.int .i64))] (ds 37))), [.arr (.st 3)], false⟩, fun k x => steepleref04_clear.j4 k x.1.1 x.1.2.1 x.1.2.2.1 x.1.2.2.2.1 x.2.1⟩]
theorem steepleref04_clear.ok (k : Nat) : Okf (XR E) Try.prog 69 (steepleref04_clear.sig k) := ⟨fn_ok (C := fun k => tab.ctx fun f => lk f (steepleref04_clear.calls k)) (fun k => tie _) k (fun j hj => calls_ok (kc (steepleref02_Has.ok j) (kc (steepleref02_Add.ok j) (kn)))) 400 Try.func69 (body := steepleref04_clear.body) (res := [.tmp 6]) rfl (by kernel_rfl) steepleref04_clear.cuts (kc ⟨by kernel_rfl, rfl, fun _ => rfl, fun _ _ => by kernel_rfl⟩ (kc ⟨by kernel_rfl, rfl, fun _ => rfl, fun _ _ => by kernel_rfl⟩ (kc ⟨by kernel_rfl, rfl, fun _ => rfl, fun _ _ => by kernel_rfl⟩ (kn)))) (fun x => by kernel_rfl), _, Try.func69, by kernel_rfl, by kernel_rfl⟩
/-! ### steeple/steepleref04.Basis: function 33 -/
mutual
def steepleref04_Basis.l4 : Nat → List S71 → Int → List Int → Option (List S71)
  | 0, _, _, _ => none
  | k + 1, x0, x1, x2 => if x1 ≥ 0 then steepleref04_Basis.l8 k x0 x1 (-1) 0 x2 else steepleref04_Basis.l17 k x0 0 x2 []
def steepleref04_Basis.l8 : Nat → List S71 → Int → Int → Int → List Int → Option (List S71)
  | 0, _, _, _, _, _ => none
  | k + 1, x0, x1, x2, x3, x4 => if x3 < (x0.length : Int) then (if x2 < 0 then (if 0 ≤ x3 then (if x3 < (x0.length : Int) then ((steepleref02_Has.f k (rd71 x0 x3) x1).bind fun r0 => if r0 = true then ((steepleref04_in.f k x4 x3).bind fun r1 => if (!r1) = true then steepleref04_Basis.j9 k x0 x1 x3 x3 x4 else steepleref04_Basis.j9 k x0 x1 x2 x3 x4) else steepleref04_Basis.j9 k x0 x1 x2 x3 x4) else none) else none) else steepleref04_Basis.j9 k x0 x1 x2 x3 x4) else if x2 ≥ 0 then ((steepleref04_clear.f k x0 x2 x1).bind fun r2 => if x4.length + [x2].length ≤ 140737488355328 / 8 then steepleref04_Basis.l4 k r2 (wrap64 (x1 - 1)) (x4 ++ [x2]) else none) else steepleref04_Basis.l4 k x0 (wrap64 (x1 - 1)) x4
def steepleref04_Basis.l17 : Nat → List S71 → Int → List Int → List S71 → Option (List S71)
  | 0, _, _, _, _ => none
  | k + 1, x0, x1, x2, x3 => if x1 < (x2.length : Int) then (if 0 ≤ x1 then (if x1 < (x2.length : Int) then (if 0 ≤ rdI x2 x1 then (if rdI x2 x1 < (x0.length : Int) then (if x3.length + [rd71 x0 (rdI x2 x1)].length ≤ 140737488355328 / 16 then steepleref04_Basis.l17 k x0 (wrap64 (x1 + 1)) x2 (x3 ++ [rd71 x0 (rdI x2 x1)]) else none) else none) else none) else none) else none) else some x3
def steepleref04_Basis.j9 : Nat → List S71 → Int → Int → Int → List Int → Option (List S71)
  | 0, _, _, _, _, _ => none
  | k + 1, x0, x1, x2, x3, x4 => steepleref04_Basis.l8 k x0 x1 x2 (wrap64 (x3 + 1)) x4
end
def steepleref04_Basis.f (k : Nat) (a0 : List S71) : Option (List S71) := steepleref04_Basis.l4 k a0 127 []
def steepleref04_Basis.sig (k : Nat) : Sig E.toTys := ⟨[.slice (.st 3)], [(true, .slice (.st 3))], none, fun x => f k x.1⟩
noncomputable def steepleref04_Basis.body : Code := Try.f33.body.getD .skip
def steepleref04_Basis.calls (k : Nat) : List (Nat × Sig E.toTys) := [(40, steepleref02_Has.sig k), (68, steepleref04_in.sig k), (69, steepleref04_clear.sig k)]
def steepleref04_Basis.cuts : List (Cut E (RT E.toTys [(true, .slice (.st 3))])) := [⟨true, 4, ⟨cat (ds 3) (cat [.one (.val (.slice (.st 3))), .one (.ref 0), .one (.val (.int .i64))] (ds 59)), [.arr (.int .i64)], false⟩, fun k x => steepleref04_Basis.l4 k x.1.1 x.1.2.1 x.2.1⟩,
  ⟨true, 8, ⟨cat (ds 3) (cat [.one (.val (.slice (.st 3))), .one (.ref 0), .one (.val (.int .i64)), .one (.val (.int .i64)), .one (.val (.int .i64))] (ds 57)), [.arr (.int .i64)], false⟩, fun k x => steepleref04_Basis.l8 k x.1.1 x.1.2.1 x.1.2.2.1 x.1.2.2.2.1 x.2.1⟩,
  ⟨true, 17, ⟨cat (ds 3) (cat [.one (.val (.slice (.st 3))), .one (.ref 0)] (cat (ds 3) (cat [.one (.ref 1), .one (.val (.int .i64))] (ds 55)))), [.arr (.int .i64), .arr (.st 3)], false⟩, fun k x => steepleref04_Basis.l17 k x.1.1 x.1.2.1 x.2.1 x.2.2.1⟩,
  ⟨false, 9, ⟨cat (ds 3) (cat [.one (.val (.slice (.st 3))), .one (.ref 0), .one (.val (.int .i64)), .one (.val (.int .i64)), .one (.val (.int .i64))] (ds 57)), [.arr (.int .i64)], false⟩, fun k x => steepleref04_Basis.j9 k x.1.1 x.1.2.1 x.1.2.2.1 x.1.2.2.2.1 x.2.1⟩]
theorem steepleref04_Basis.ok (k : Nat) : Okf (XR E) Try.prog 33 (steepleref04_Basis.sig k) := ⟨fn_ok (C := fun k => tab.ctx fun f => lk f (steepleref04_Basis.calls k)) (fun k => tie _) k (fun j hj => calls_ok (kc (steepleref02_Has.ok j) (kc (steepleref04_in.ok j) (kc (steepleref04_clear.ok j) (kn))))) 400 Try.func33 (body := steepleref04_Basis.body) (res := [.tmp 2]) rfl (by kernel_rfl) steepleref04_Basis.cuts (kc ⟨by kernel_rfl, rfl, fun _ => rfl, fun _ _ => by kernel_rfl⟩ (kc ⟨by kernel_rfl, rfl, fun _ => rfl, fun _ _ => by kernel_rfl⟩ (kc ⟨by kernel_rfl, rfl, fun _ => rfl, fun _ _ => by kernel_rfl⟩ (kc ⟨by kernel_rfl, rfl, fun _ => rfl, fun _ _ => by kernel_rfl⟩ (kn))))) (fun x => by kernel_rfl), _, Try.func33, by kernel_rfl, by kernel_rfl⟩
/-! ### steeple/span.Rank: function 35 -/
def span_Rank.f (k : Nat) (a0 : List S34) : Option Int := (span_Basis.f k a0).bind fun r0 => some (r0.length : Int)
def span_Rank.sig (k : Nat) : Sig E.toTys := ⟨[.slice (.st 1)], [(false, .int .i64)], none, fun x => f k x.1⟩
noncomputable def span_Rank.body : Code := Try.f35.body.getD .skip
def span_Rank.calls (k : Nat) : List (Nat × Sig E.toTys) := [(34, span_Basis.sig k)]
def span_Rank.cuts : List (Cut E (RT E.toTys [(false, .int .i64)])) := []
theorem span_Rank.ok (k : Nat) : Okf (XR E) Try.prog 35 (span_Rank.sig k) := ⟨fn_ok (C := fun k => tab.ctx fun f => lk f (span_Rank.calls k)) (fun k => tie _) k (fun j hj => calls_ok (kc (span_Basis.ok j) (kn))) 400 Try.func35 (body := span_Rank.body) (res := [.tmp 2]) rfl (by kernel_rfl) span_Rank.cuts (kn) (fun x => by kernel_rfl), _, Try.func35, by kernel_rfl, by kernel_rfl⟩
/-! ### steeple/span.In: function 36 -/
def span_In.f (k : Nat) (a0 : List S34) (a1 : S34) : Option Bool := (span_Basis.f k a0).bind fun r0 => (span_less.f k r0 a1).bind fun r1 => some (decide (r1.f0 = 0 ∧ r1.f1 = 0))
def span_In.sig (k : Nat) : Sig E.toTys := ⟨[.slice (.st 1), .st 1], [(false, .bool)], none, fun x => f k x.1 x.2.1⟩
noncomputable def span_In.body : Code := Try.f36.body.getD .skip
def span_In.calls (k : Nat) : List (Nat × Sig E.toTys) := [(34, span_Basis.sig k), (71, span_less.sig k)]
def span_In.cuts : List (Cut E (RT E.toTys [(false, .bool)])) := []
theorem span_In.ok (k : Nat) : Okf (XR E) Try.prog 36 (span_In.sig k) := ⟨fn_ok (C := fun k => tab.ctx fun f => lk f (span_In.calls k)) (fun k => tie _) k (fun j hj => calls_ok (kc (span_Basis.ok j) (kc (span_less.ok j) (kn)))) 400 Try.func36 (body := span_In.body) (res := [.tmp 4]) rfl (by kernel_rfl) span_In.cuts (kn) (fun x => by kernel_rfl), _, Try.func36, by kernel_rfl, by kernel_rfl⟩
/-! ### steeple/steepleref04.In: function 37 -/
def steepleref04_In.l3 : Nat → List S71 → Int → Int → Int → List S71 → Option Bool
  | 0, _, _, _, _, _ => none
  | k + 1, x0, x1, x2, x3, x4 => if x1 < (x0.length : Int) then (if 0 ≤ x1 then (if x1 < (x0.length : Int) then (if x4.length + [rd71 x0 x1].length ≤ 140737488355328 / 16 then steepleref04_In.l3 k x0 (wrap64 (x1 + 1)) x2 x3 (x4 ++ [rd71 x0 x1]) else none) else none) else none) else if x4.length + [(⟨x2, x3⟩ : S71)].length ≤ 140737488355328 / 16 then ((steepleref04_Basis.f k (x4 ++ [(⟨x2, x3⟩ : S71)])).bind fun r0 => (steepleref04_Basis.f k x0).bind fun r1 => some (decide ((r0.length : Int) = (r1.length : Int)))) else none
def steepleref04_In.f (k : Nat) (a0 : List S71) (a1 : S71) : Option Bool := steepleref04_In.l3 k a0 0 a1.f0 a1.f1 []
def steepleref04_In.sig (k : Nat) : Sig E.toTys := ⟨[.slice (.st 3), .st 3], [(false, .bool)], none, fun x => f k x.1 x.2.1⟩
noncomputable def steepleref04_In.body : Code := Try.f37.body.getD .skip
def steepleref04_In.calls (k : Nat) : List (Nat × Sig E.toTys) := [(33, steepleref04_Basis.sig k)]
def steepleref04_In.cuts : List (Cut E (RT E.toTys [(false, .bool)])) := [⟨true, 3, ⟨cat [.one (.val (.slice (.st 3)))] (cat (ds 2) (cat [.one (.ptr 0 0)] (cat (ds 1) (cat [.one (.ref 1), .one (.val (.int .i64))] (ds 24))))), [.var [.val (.int .u64), .val (.int .u64)], .arr (.st 3)], false⟩, fun k x => steepleref04_In.l3 k x.1.1 x.1.2.1 x.2.1.1 x.2.1.2.1 x.2.2.1⟩]
theorem steepleref04_In.ok (k : Nat) : Okf (XR E) Try.prog 37 (steepleref04_In.sig k) := ⟨fn_ok (C := fun k => tab.ctx fun f => lk f (steepleref04_In.calls k)) (fun k => tie _) k (fun j hj => calls_ok (kc (steepleref04_Basis.ok j) (kn))) 400 Try.func37 (body := steepleref04_In.body) (res := [.tmp 4]) rfl (by kernel_rfl) steepleref04_In.cuts (kc ⟨by kernel_rfl, rfl, fun _ => rfl, fun _ _ => by kernel_rfl⟩ (kn)) (fun x => by kernel_rfl), _, Try.func37, by kernel_rfl, by kernel_rfl⟩
/-! ### slices.Equal: function 72 -/
def slices_Equal72.l4 : Nat → List S34 → List S34 → Int → Int → Option Bool
  | 0, _, _, _, _ => none
  | k + 1, x0, x1, x2, x3 => if x3 < x2 then (if 0 ≤ x3 then (if x3 < (x0.length : Int) then (if 0 ≤ x3 then (if x3 < (x1.length : Int) then (if (rd34 x0 x3).f0 = (rd34 x1 x3).f0 ∧ (rd34 x0 x3).f1 = (rd34 x1 x3).f1 then slices_Equal72.l4 k x0 x1 x2 (wrap64 (x3 + 1)) else some false) else none) else none) else none) else none) else some true
def slices_Equal72.f (k : Nat) (a0 : List S34) (a1 : List S34) : Option Bool := if (a0.length : Int) = (a1.length : Int) then slices_Equal72.l4 k a0 a1 (a0.length : Int) 0 else some false
def slices_Equal72.sig (k : Nat) : Sig E.toTys := ⟨[.slice (.st 1), .slice (.st 1)], [(false, .bool)], none, fun x => f k x.1 x.2.1⟩
noncomputable def slices_Equal72.body : Code := Try.f72.body.getD .skip
def slices_Equal72.calls (k : Nat) : List (Nat × Sig E.toTys) := []
def slices_Equal72.cuts : List (Cut E (RT E.toTys [(false, .bool)])) := [⟨true, 4, ⟨cat [.one (.val (.slice (.st 1))), .one (.val (.slice (.st 1)))] (cat (ds 10) (cat [.one (.val (.int .i64)), .one (.val (.int .i64))] (ds 12))), [], false⟩, fun k x => slices_Equal72.l4 k x.1.1 x.1.2.1 x.1.2.2.1 x.1.2.2.2.1⟩]
theorem slices_Equal72.ok (k : Nat) : Okf (XR E) Try.prog 72 (slices_Equal72.sig k) := ⟨fn_ok (C := fun k => tab.ctx fun f => lk f (slices_Equal72.calls k)) (fun k => tie _) k (fun j hj => calls_ok (kn)) 400 Try.func72 (body := slices_Equal72.body) (res := [.tmp 4]) rfl (by kernel_rfl) slices_Equal72.cuts (kc ⟨by kernel_rfl, rfl, fun _ => rfl, fun _ _ => by kernel_rfl⟩ (kn)) (fun x => by kernel_rfl), _, Try.func72, by kernel_rfl, by kernel_rfl⟩
/-! ### steeple/span.Same: function 38 -/
def span_Same.f (k : Nat) (a0 : List S34) (a1 : List S34) : Option Bool := (span_Basis.f k a0).bind fun r0 => (span_Basis.f k a1).bind fun r1 => (slices_Equal72.f k r0 r1).bind fun r2 => some r2
def span_Same.sig (k : Nat) : Sig E.toTys := ⟨[.slice (.st 1), .slice (.st 1)], [(false, .bool)], none, fun x => f k x.1 x.2.1⟩
noncomputable def span_Same.body : Code := Try.f38.body.getD .skip
def span_Same.calls (k : Nat) : List (Nat × Sig E.toTys) := [(34, span_Basis.sig k), (72, slices_Equal72.sig k)]
def span_Same.cuts : List (Cut E (RT E.toTys [(false, .bool)])) := []
theorem span_Same.ok (k : Nat) : Okf (XR E) Try.prog 38 (span_Same.sig k) := ⟨fn_ok (C := fun k => tab.ctx fun f => lk f (span_Same.calls k)) (fun k => tie _) k (fun j hj => calls_ok (kc (span_Basis.ok j) (kc (slices_Equal72.ok j) (kn)))) 400 Try.func38 (body := span_Same.body) (res := [.tmp 4]) rfl (by kernel_rfl) span_Same.cuts (kn) (fun x => by kernel_rfl), _, Try.func38, by kernel_rfl, by kernel_rfl⟩
end Go.Proofs.Ytmoekjdlpfjhiaa.B
namespace Go.Proofs.Ytmoekjdlpfjhiaa.B
open Go.Proofs.Ytmoekjdlpfjhiaa.V.B Go.RowKit
set_option linter.unusedVariables false
/-! ### steeple/steeplelaw04.SpanBases: function 7 -/
mutual
def steeplelaw04_SpanBases.l6 : Nat → List S34 → List S34 → Bool → Int → Int → Int → List S71 → List S71 → Option Bool
  | 0, _, _, _, _, _, _, _, _ => none
  | k + 1, x0, x1, x2, x3, x4, x5, x6, x7 => if x2 = true then (if x3 < (x6.length : Int) then (if 0 ≤ x3 then (if x3 < (x6.length : Int) then (if 0 ≤ x3 then (if x3 < (x7.length : Int) then steeplelaw04_SpanBases.l6 k x0 x1 (decide ((rd71 x6 x3).f0 = (rd71 x7 x3).f0 ∧ (rd71 x6 x3).f1 = (rd71 x7 x3).f1)) (wrap64 (x3 + 1)) x4 x5 x6 x7 else none) else none) else none) else none) else steeplelaw04_SpanBases.j9 k x0 x1 x2 x4 x5 x6) else steeplelaw04_SpanBases.j9 k x0 x1 x2 x4 x5 x6
def steeplelaw04_SpanBases.j9 : Nat → List S34 → List S34 → Bool → Int → Int → List S71 → Option Bool
  | 0, _, _, _, _, _, _ => none
  | k + 1, x0, x1, x2, x3, x4, x5 => (steeplelaw04_awake.f k).bind fun r6 => if r6 = true then ((span_Basis.f k x0).bind fun r7 => (steeplelaw01_Same.f k r7 x5).bind fun r8 => if r8 = true then ((span_Rank.f k x0).bind fun r9 => if r9 = (x5.length : Int) then ((span_In.f k x0 (⟨x3, x4⟩ : S34)).bind fun r10 => (steeplelaw01_Ref.f k x0).bind fun r11 => (steepleref04_In.f k r11 (⟨x3, x4⟩ : S71)).bind fun r12 => if r10 = r12 then ((span_Same.f k x0 x1).bind fun r13 => some (decide (r13 = x2))) else some false) else some false) else some false) else some false
end
def steeplelaw04_SpanBases.f (k : Nat) (a0 : List S34) (a1 : List S34) (a2 : S34) : Option Bool := if (a0.length : Int) > 20 then ((steeplelaw04_awake.f k).bind fun r0 => some r0) else if (a1.length : Int) > 20 then ((steeplelaw04_awake.f k).bind fun r1 => some r1) else (steeplelaw01_Ref.f k a0).bind fun r2 => (steepleref04_Basis.f k r2).bind fun r3 => (steeplelaw01_Ref.f k a1).bind fun r4 => (steepleref04_Basis.f k r4).bind fun r5 => steeplelaw04_SpanBases.l6 k a0 a1 (decide ((r3.length : Int) = (r5.length : Int))) 0 a2.f0 a2.f1 r3 r5
def steeplelaw04_SpanBases.sig (k : Nat) : Sig E.toTys := ⟨[.slice (.st 1), .slice (.st 1), .st 1], [(false, .bool)], none, fun x => f k x.1 x.2.1 x.2.2.1⟩
noncomputable def steeplelaw04_SpanBases.body : Code := Try.f7.body.getD .skip
def steeplelaw04_SpanBases.calls (k : Nat) : List (Nat × Sig E.toTys) := [(32, steeplelaw04_awake.sig k), (24, steeplelaw01_Ref.sig k), (33, steepleref04_Basis.sig k), (34, span_Basis.sig k), (29, steeplelaw01_Same.sig k), (35, span_Rank.sig k), (36, span_In.sig k), (37, steepleref04_In.sig k), (38, span_Same.sig k)]
def steeplelaw04_SpanBases.cuts : List (Cut E (RT E.toTys [(false, .bool)])) := [⟨true, 6, ⟨cat [.one (.val (.slice (.st 1))), .one (.val (.slice (.st 1)))] (cat (ds 3) (cat [.one (.ptr 0 0)] (cat (ds 1) (cat [.one (.ref 1), .one (.ref 2), .one (.val (.bool)), .one (.val (.int .i64))] (ds 69))))), [.var [.val (.int .u64), .val (.int .u64)], .arr (.st 3), .arr (.st 3)], false⟩, fun k x => steeplelaw04_SpanBases.l6 k x.1.1 x.1.2.1 x.1.2.2.1 x.1.2.2.2.1 x.2.1.1 x.2.1.2.1 x.2.2.1 x.2.2.2.1⟩,
  ⟨false, 9, ⟨cat [.one (.val (.slice (.st 1))), .one (.val (.slice (.st 1)))] (cat (ds 3) (cat [.one (.ptr 0 0)] (cat (ds 1) (cat [.one (.ref 1)] (cat (ds 1) (cat [.one (.val (.bool))] (ds 70))))))), [.var [.val (.int .u64), .val (.int .u64)], .arr (.st 3)], false⟩, fun k x => steeplelaw04_SpanBases.j9 k x.1.1 x.1.2.1 x.1.2.2.1 x.2.1.1 x.2.1.2.1 x.2.2.1⟩]
theorem steeplelaw04_SpanBases.ok (k : Nat) : Okf (XR E) Try.prog 7 (steeplelaw04_SpanBases.sig k) := ⟨fn_ok (C := fun k => tab.ctx fun f => lk f (steeplelaw04_SpanBases.calls k)) (fun k => tie _) k (fun j hj => calls_ok (kc (steeplelaw04_awake.ok j) (kc (steeplelaw01_Ref.ok j) (kc (steepleref04_Basis.ok j) (kc (span_Basis.ok j) (kc (steeplelaw01_Same.ok j) (kc (span_Rank.ok j) (kc (span_In.ok j) (kc (steepleref04_In.ok j) (kc (span_Same.ok j) (kn))))))))))) 400 Try.func7 (body := steeplelaw04_SpanBases.body) (res := [.tmp 6]) rfl (by kernel_rfl) steeplelaw04_SpanBases.cuts (kc ⟨by kernel_rfl, rfl, fun _ => rfl, fun _ _ => by kernel_rfl⟩ (kc ⟨by kernel_rfl, rfl, fun _ => rfl, fun _ _ => by kernel_rfl⟩ (kn))) (fun x => by kernel_rfl), _, Try.func7, by kernel_rfl, by kernel_rfl⟩
/-! ### steeple/steepleref04.Lead: function 39 -/
def steepleref04_Lead.l3 : Nat → Int → Int → Int → Int → Option Int
  | 0, _, _, _, _ => none
  | k + 1, x0, x1, x2, x3 => if x1 < 128 then ((steepleref02_Has.f k (⟨x2, x3⟩ : S71) x1).bind fun r0 => if r0 = true then steepleref04_Lead.l3 k x1 (wrap64 (x1 + 1)) x2 x3 else steepleref04_Lead.l3 k x0 (wrap64 (x1 + 1)) x2 x3) else some x0
def steepleref04_Lead.f (k : Nat) (a0 : S71) : Option Int := steepleref04_Lead.l3 k (-1) 0 a0.f0 a0.f1
def steepleref04_Lead.sig (k : Nat) : Sig E.toTys := ⟨[.st 3], [(false, .int .i64)], none, fun x => f k x.1⟩
noncomputable def steepleref04_Lead.body : Code := Try.f39.body.getD .skip
def steepleref04_Lead.calls (k : Nat) : List (Nat × Sig E.toTys) := [(40, steepleref02_Has.sig k)]
def steepleref04_Lead.cuts : List (Cut E (RT E.toTys [(false, .int .i64)])) := [⟨true, 3, ⟨cat (ds 1) (cat [.one (.ptr 0 0)] (cat (ds 1) (cat [.one (.val (.int .i64)), .one (.val (.int .i64))] (ds 9)))), [.var [.val (.int .u64), .val (.int .u64)]], false⟩, fun k x => steepleref04_Lead.l3 k x.1.1 x.1.2.1 x.2.1.1 x.2.1.2.1⟩]
theorem steepleref04_Lead.ok (k : Nat) : Okf (XR E) Try.prog 39 (steepleref04_Lead.sig k) := ⟨fn_ok (C := fun k => tab.ctx fun f => lk f (steepleref04_Lead.calls k)) (fun k => tie _) k (fun j hj => calls_ok (kc (steepleref02_Has.ok j) (kn))) 400 Try.func39 (body := steepleref04_Lead.body) (res := [.tmp 2]) rfl (by kernel_rfl) steepleref04_Lead.cuts (kc ⟨by kernel_rfl, rfl, fun _ => rfl, fun _ _ => by kernel_rfl⟩ (kn)) (fun x => by kernel_rfl), _, Try.func39, by kernel_rfl, by kernel_rfl⟩
/-! ### steeple/steeplelaw04.SpanKeeps: function 8 -/
mutual
def steeplelaw04_SpanKeeps.l5 : Nat → List S34 → Int → List S34 → Int → Option Bool
  | 0, _, _, _, _ => none
  | k + 1, x0, x1, x2, x3 => if x3 < (x0.length : Int) then (if 0 ≤ x3 then (if x3 < (x0.length : Int) then ((span_In.f k x2 (rd34 x0 x3)).bind fun r2 => if (!r2) = true then some false else steeplelaw04_SpanKeeps.l5 k x0 x1 x2 (wrap64 (x3 + 1))) else none) else none) else steeplelaw04_SpanKeeps.l10 k x0 x1 x2 0
def steeplelaw04_SpanKeeps.l10 : Nat → List S34 → Int → List S34 → Int → Option Bool
  | 0, _, _, _, _ => none
  | k + 1, x0, x1, x2, x3 => if x3 < (x2.length : Int) then (if 0 ≤ x3 then (if x3 < (x2.length : Int) then ((steepleref04_Lead.f k (⟨(rd34 x2 x3).f0, (rd34 x2 x3).f1⟩ : S71)).bind fun r3 => if r3 < 0 then some false else if 0 ≤ x3 then (if x3 < (x2.length : Int) then ((span_In.f k x0 (rd34 x2 x3)).bind fun r4 => if (!r4) = true then some false else if x3 > 0 then (if 0 ≤ wrap64 (x3 - 1) then (if wrap64 (x3 - 1) < (x2.length : Int) then ((steepleref04_Lead.f k (⟨(rd34 x2 (wrap64 (x3 - 1))).f0, (rd34 x2 (wrap64 (x3 - 1))).f1⟩ : S71)).bind fun r5 => if r3 ≥ r5 then some false else steeplelaw04_SpanKeeps.l16 k x0 x1 x2 x3 r3 0) else none) else none) else steeplelaw04_SpanKeeps.l16 k x0 x1 x2 x3 r3 0) else none) else none) else none) else none) else (steeplelaw04_awake.f k).bind fun r6 => if r6 = true then ((span_Point.f k x0 x1).bind fun r7 => (span_In.f k x0 r7).bind fun r8 => if r8 = true then ((span_Same.f k x0 x2).bind fun r9 => some r9) else some false) else some false
def steeplelaw04_SpanKeeps.l16 : Nat → List S34 → Int → List S34 → Int → Int → Int → Option Bool
  | 0, _, _, _, _, _, _ => none
  | k + 1, x0, x1, x2, x3, x4, x5 => if x5 < (x2.length : Int) then (if x5 = x3 then steeplelaw04_SpanKeeps.l16 k x0 x1 x2 x3 x4 (wrap64 (x5 + 1)) else if 0 ≤ x5 then (if x5 < (x2.length : Int) then ((steepleref02_Has.f k (⟨(rd34 x2 x5).f0, (rd34 x2 x5).f1⟩ : S71) x4).bind fun r10 => if r10 = true then some false else steeplelaw04_SpanKeeps.l16 k x0 x1 x2 x3 x4 (wrap64 (x5 + 1))) else none) else none) else steeplelaw04_SpanKeeps.l10 k x0 x1 x2 (wrap64 (x3 + 1))
end
def steeplelaw04_SpanKeeps.f (k : Nat) (a0 : List S34) (a1 : Int) : Option Bool := if (a0.length : Int) > 20 then ((steeplelaw04_awake.f k).bind fun r0 => some r0) else (span_Basis.f k a0).bind fun r1 => steeplelaw04_SpanKeeps.l5 k a0 a1 r1 0
def steeplelaw04_SpanKeeps.sig (k : Nat) : Sig E.toTys := ⟨[.slice (.st 1), .int .i64], [(false, .bool)], none, fun x => f k x.1 x.2.1⟩
noncomputable def steeplelaw04_SpanKeeps.body : Code := Try.f8.body.getD .skip
def steeplelaw04_SpanKeeps.calls (k : Nat) : List (Nat × Sig E.toTys) := [(32, steeplelaw04_awake.sig k), (34, span_Basis.sig k), (36, span_In.sig k), (39, steepleref04_Lead.sig k), (41, span_Point.sig k), (38, span_Same.sig k), (40, steepleref02_Has.sig k)]
def steeplelaw04_SpanKeeps.cuts : List (Cut E (RT E.toTys [(false, .bool)])) := [⟨true, 5, ⟨cat [.one (.val (.slice (.st 1))), .one (.val (.int .i64))] (cat (ds 3) (cat [.one (.val (.slice (.st 1))), .one (.val (.int .i64))] (ds 88))), [], false⟩, fun k x => steeplelaw04_SpanKeeps.l5 k x.1.1 x.1.2.1 x.1.2.2.1 x.1.2.2.2.1⟩,
  ⟨true, 10, ⟨cat [.one (.val (.slice (.st 1))), .one (.val (.int .i64))] (cat (ds 3) (cat [.one (.val (.slice (.st 1)))] (cat (ds 1) (cat [.one (.val (.int .i64))] (ds 87))))), [], false⟩, fun k x => steeplelaw04_SpanKeeps.l10 k x.1.1 x.1.2.1 x.1.2.2.1 x.1.2.2.2.1⟩,
  ⟨true, 16, ⟨cat [.one (.val (.slice (.st 1))), .one (.val (.int .i64))] (cat (ds 3) (cat [.one (.val (.slice (.st 1)))] (cat (ds 1) (cat [.one (.val (.int .i64)), .one (.val (.int .i64)), .one (.val (.int .i64))] (ds 85))))), [], false⟩, fun k x => steeplelaw04_SpanKeeps.l16 k x.1.1 x.1.2.1 x.1.2.2.1 x.1.2.2.2.1 x.1.2.2.2.2.1 x.1.2.2.2.2.2.1⟩]
theorem steeplelaw04_SpanKeeps.ok (k : Nat) : Okf (XR E) Try.prog 8 (steeplelaw04_SpanKeeps.sig k) := ⟨fn_ok (C := fun k => tab.ctx fun f => lk f (steeplelaw04_SpanKeeps.calls k)) (fun k => tie _) k (fun j hj => calls_ok (kc (steeplelaw04_awake.ok j) (kc (span_Basis.ok j) (kc (span_In.ok j) (kc (steepleref04_Lead.ok j) (kc (span_Point.ok j) (kc (span_Same.ok j) (kc (steepleref02_Has.ok j) (kn))))))))) 400 Try.func8 (body := steeplelaw04_SpanKeeps.body) (res := [.tmp 4]) rfl (by kernel_rfl) steeplelaw04_SpanKeeps.cuts (kc ⟨by kernel_rfl, rfl, fun _ => rfl, fun _ _ => by kernel_rfl⟩ (kc ⟨by kernel_rfl, rfl, fun _ => rfl, fun _ _ => by kernel_rfl⟩ (kc ⟨by kernel_rfl, rfl, fun _ => rfl, fun _ _ => by kernel_rfl⟩ (kn)))) (fun x => by kernel_rfl), _, Try.func8, by kernel_rfl, by kernel_rfl⟩
end Go.Proofs.Ytmoekjdlpfjhiaa.B

/- Own text: merged by pack2.py. -/
import Derived.Test.YtbapldgapbmdkaaGreatProg
import Derived.Test.YtbapldgapbmdkaaGreatMBa
import Derived.Test.YtbapldgapbmdkaaGreatMBb
import Derived.Test.YtbapldgapbmdkaaGreatMBc
set_option linter.unusedSimpArgs false
set_option linter.unusedVariables false
namespace Go.Proofs.YtbapldgapbmdkaaGreat.B
open Go.Proofs.YtbapldgapbmdkaaGreat.V.B Go.RowKit
set_option linter.unusedVariables false
structure S23 where
  f0 : Int
  f1 : Int
  f2 : Int
structure S47 where
  f0 : Int
  f1 : Int
structure S84 where
  f0 : Int
  f1 : List S47
  f2 : List S47
  f3 : List S47
structure S53 where
  f0 : Option S84
  f1 : Int
structure S48 where
  f0 : Int
  f1 : Int
def Es : Nat → Type
  | 0 => S23
  | 1 => S47
  | 2 => S84
  | 3 => S53
  | 4 => S48
  | _ + 5 => Unit
def Efs : Nat → List Ty
  | 0 => [.int .i64, .int .i64, .int .i64]
  | 1 => [.int .u64, .int .u64]
  | 2 => [.int .i64, .slice (.st 1), .slice (.st 1), .slice (.st 1)]
  | 3 => [.ptr (.st 2), .int .i64]
  | 4 => [.int .u64, .int .u64]
  | _ + 5 => []
def z23 : S23 := ⟨0, 0, 0⟩
def z47 : S47 := ⟨0, 0⟩
def z84 : S84 := ⟨0, [], [], []⟩
def z53 : S53 := ⟨none, 0⟩
def z48 : S48 := ⟨0, 0⟩
def E : Env where
  S := Es
  fs := Efs
  z := fun n => match n with | 0 => z23 | 1 => z47 | 2 => z84 | 3 => z53 | 4 => z48 | _ + 5 => ()
  to := fun n => match n with | 0 => fun (x : S23) => (x.f0, x.f1, x.f2, ()) | 1 => fun (x : S47) => (x.f0, x.f1, ()) | 2 => fun (x : S84) => (x.f0, x.f1, x.f2, x.f3, ()) | 3 => fun (x : S53) => (x.f0, x.f1, ()) | 4 => fun (x : S48) => (x.f0, x.f1, ()) | _ + 5 => fun _ => ()
  of := fun n => match n with | 0 => fun x => (⟨x.1, x.2.1, x.2.2.1⟩ : S23) | 1 => fun x => (⟨x.1, x.2.1⟩ : S47) | 2 => fun x => (⟨x.1, x.2.1, x.2.2.1, x.2.2.2.1⟩ : S84) | 3 => fun x => (⟨x.1, x.2.1⟩ : S53) | 4 => fun x => (⟨x.1, x.2.1⟩ : S48) | _ + 5 => fun _ => ()
  of_to := fun n => match n with | 0 => fun _ => rfl | 1 => fun _ => rfl | 2 => fun _ => rfl | 3 => fun _ => rfl | 4 => fun _ => rfl | _ + 5 => fun _ => rfl
  to_of := fun n => match n with | 0 => fun _ => rfl | 1 => fun _ => rfl | 2 => fun _ => rfl | 3 => fun _ => rfl | 4 => fun _ => rfl | _ + 5 => fun _ => rfl
theorem zl_ok : ∀ n, E.to n (E.z n) = zl E (E.fs n) := fun n => match n with | 0 => rfl | 1 => rfl | 2 => rfl | 3 => rfl | 4 => rfl | _ + 5 => rfl
def rd23 (xs : List S23) (i : Int) : S23 := xs.getD i.toNat z23
def rd47 (xs : List S47) (i : Int) : S47 := xs.getD i.toNat z47
def rd84 (xs : List S84) (i : Int) : S84 := xs.getD i.toNat z84
def rd53 (xs : List S53) (i : Int) : S53 := xs.getD i.toNat z53
def rd48 (xs : List S48) (i : Int) : S48 := xs.getD i.toNat z48
def rdI (xs : List Int) (i : Int) : Int := xs.getD i.toNat 0
def rdB (xs : List Bool) (i : Int) : Bool := xs.getD i.toNat false
def rdL {α : Type} (xs : List (List α)) (i : Int) : List α := xs.getD i.toNat []
def by256_793 : ByteArray := ⟨#[0, 1, 2, 2, 3, 3, 3, 3, 4, 4, 4, 4, 4, 4, 4, 4, 5, 5, 5, 5, 5, 5, 5, 5, 5, 5, 5, 5, 5, 5, 5, 5, 6, 6, 6, 6, 6, 6, 6, 6, 6, 6, 6, 6, 6, 6, 6, 6, 6, 6, 6, 6, 6, 6, 6, 6, 6, 6, 6, 6, 6, 6, 6, 6, 7, 7, 7, 7, 7, 7, 7, 7, 7, 7, 7, 7, 7, 7, 7, 7, 7, 7, 7, 7, 7, 7, 7, 7, 7, 7, 7, 7, 7, 7, 7, 7, 7, 7, 7, 7, 7, 7, 7, 7, 7, 7, 7, 7, 7, 7, 7, 7, 7, 7, 7, 7, 7, 7, 7, 7, 7, 7, 7, 7, 7, 7, 7, 7, 8, 8, 8, 8, 8, 8, 8, 8, 8, 8, 8, 8, 8, 8, 8, 8, 8, 8, 8, 8, 8, 8, 8, 8, 8, 8, 8, 8, 8, 8, 8, 8, 8, 8, 8, 8, 8, 8, 8, 8, 8, 8, 8, 8, 8, 8, 8, 8, 8, 8, 8, 8, 8, 8, 8, 8, 8, 8, 8, 8, 8, 8, 8, 8, 8, 8, 8, 8, 8, 8, 8, 8, 8, 8, 8, 8, 8, 8, 8, 8, 8, 8, 8, 8, 8, 8, 8, 8, 8, 8, 8, 8, 8, 8, 8, 8, 8, 8, 8, 8, 8, 8, 8, 8, 8, 8, 8, 8, 8, 8, 8, 8, 8, 8, 8, 8, 8, 8, 8, 8, 8, 8, 8, 8, 8, 8, 8, 8]⟩
def tab : Tab := ⟨[(3, .int .i64), (4, .bool), (5, .int .u8), (23, .st 0), (24, .slice (.st 1)), (25, .ptr (.st 3)), (28, .int .i64), (32, .slice (.st 4)), (38, .slice (.int .i64)), (45, .int .u64), (47, .st 1), (48, .st 4), (51, .ptr (.st 2)), (53, .st 3), (84, .st 2), (94, .int .u64), (108, .slice (.int .u64)), (118, .int .i64)], [(23, 0, 0, 3), (23, 1, 1, 3), (23, 2, 2, 3), (47, 0, 0, 45), (47, 1, 1, 45), (48, 0, 0, 45), (48, 1, 1, 45), (53, 0, 0, 51), (53, 1, 1, 3), (84, 0, 0, 3), (84, 1, 1, 24), (84, 2, 2, 24), (84, 3, 3, 24)], [(24, 16), (32, 16), (38, 8), (108, 8)], [(47, 2), (48, 2)], [9]⟩
theorem tab_ok : tab.chk E Tryz.prog = true := by kernel_rfl
theorem tie (calls : Nat → Option (Sig E.toTys)) : Tie (XR E) Tryz.prog (tab.ctx calls) := tie_of zl_ok tab_ok calls
end Go.Proofs.YtbapldgapbmdkaaGreat.B
namespace Go.Proofs.YtbapldgapbmdkaaGreat.B
open Go.Proofs.YtbapldgapbmdkaaGreat.V.B Go.RowKit
set_option linter.unusedVariables false
/-! ### steeple/steepleref08.Check: function 16 -/
mutual
def steepleref08_Check.j3 : Nat → Option Int
  | 0 => none
  | k + 1 => some 1
def steepleref08_Check.j5 : Nat → Option Int
  | 0 => none
  | k + 1 => some 2
end
def steepleref08_Check.f (k : Nat) (a0 : Int) (a1 : Int) (a2 : Int) : Option Int := if a0 < 0 then steepleref08_Check.j3 k else if a0 > 7 then steepleref08_Check.j3 k else if a1 < 0 then steepleref08_Check.j3 k else if a2 < 0 then steepleref08_Check.j3 k else if a1 > 10 then steepleref08_Check.j5 k else if a2 > 10 then steepleref08_Check.j5 k else if wrap64 (a1 + a2) > 10 then steepleref08_Check.j5 k else if 0 ≤ a0 then (if a0 < ([1, 2, 4, 8, 16, 32, 64, 128].length : Int) then (if wrap64 (a1 + a2) > rdI [1, 2, 4, 8, 16, 32, 64, 128] a0 then steepleref08_Check.j5 k else some 0) else none) else none
def steepleref08_Check.sig (k : Nat) : Sig E.toTys := ⟨[.int .i64, .int .i64, .int .i64], [(false, .int .i64)], none, fun x => f k x.1 x.2.1 x.2.2.1⟩
noncomputable def steepleref08_Check.body : Code := Tryz.f16.body.getD .skip
def steepleref08_Check.calls (k : Nat) : List (Nat × Sig E.toTys) := []
def steepleref08_Check.cuts : List (Cut E (RT E.toTys [(false, .int .i64)])) := [⟨false, 3, ⟨ds 45, [], false⟩, fun k x => steepleref08_Check.j3 k⟩,
  ⟨false, 5, ⟨ds 45, [], false⟩, fun k x => steepleref08_Check.j5 k⟩]
theorem steepleref08_Check.ok (k : Nat) : Okf (XR E) Tryz.prog 16 (steepleref08_Check.sig k) := ⟨fn_ok (C := fun k => tab.ctx fun f => lk f (steepleref08_Check.calls k)) (fun k => tie _) k (fun j hj => calls_ok (kn)) 400 Tryz.func16 (body := steepleref08_Check.body) (res := [.tmp 6]) rfl (by kernel_rfl) steepleref08_Check.cuts (kc ⟨by kernel_rfl, rfl, fun _ => rfl, fun _ _ => by kernel_rfl⟩ (kc ⟨by kernel_rfl, rfl, fun _ => rfl, fun _ _ => by kernel_rfl⟩ (kn))) (fun x => by kernel_rfl), _, Tryz.func16, by kernel_rfl, by kernel_rfl⟩
/-! ### steeple/octet.Wide: function 37 -/
def octet_Wide.f (k : Nat) (a0 : Int) : Option Int := if a0 < 0 then some 0 else if a0 > 7 then some 0 else if a0 ≤ 3 then some 1 else if 0 ≤ wrap64 (a0 - 3) then some (shl .i64 1 (wrap64 (a0 - 3))) else none
def octet_Wide.sig (k : Nat) : Sig E.toTys := ⟨[.int .i64], [(false, .int .i64)], none, fun x => f k x.1⟩
noncomputable def octet_Wide.body : Code := Tryz.f37.body.getD .skip
def octet_Wide.calls (k : Nat) : List (Nat × Sig E.toTys) := []
def octet_Wide.cuts : List (Cut E (RT E.toTys [(false, .int .i64)])) := []
theorem octet_Wide.ok (k : Nat) : Okf (XR E) Tryz.prog 37 (octet_Wide.sig k) := ⟨fn_ok (C := fun k => tab.ctx fun f => lk f (octet_Wide.calls k)) (fun k => tie _) k (fun j hj => calls_ok (kn)) 400 Tryz.func37 (body := octet_Wide.body) (res := [.tmp 2]) rfl (by kernel_rfl) octet_Wide.cuts (kn) (fun x => by kernel_rfl), _, Tryz.func37, by kernel_rfl, by kernel_rfl⟩
/-! ### steeple/tower.Bit: function 62 -/
mutual
def tower_Bit.j3 : Nat → Int → Int → Int → Option S47
  | 0, _, _, _ => none
  | k + 1, x0, x1, x2 => if x0 ≥ 64 then (if x0 < 128 then (if 0 ≤ wrap64 (x0 - 64) then some (⟨shl .u64 1 (wrap64 (x0 - 64)), 0⟩ : S47) else none) else tower_Bit.j5 k x1 x2) else tower_Bit.j5 k x1 x2
def tower_Bit.j5 : Nat → Int → Int → Option S47
  | 0, _, _ => none
  | k + 1, _, _ => some (⟨0, 0⟩ : S47)
end
def tower_Bit.f (k : Nat) (a0 : Int) : Option S47 := if a0 ≥ 0 then (if a0 < 64 then (if 0 ≤ a0 then some (⟨0, shl .u64 1 a0⟩ : S47) else none) else tower_Bit.j3 k a0 0 0) else tower_Bit.j3 k a0 0 0
def tower_Bit.sig (k : Nat) : Sig E.toTys := ⟨[.int .i64], [(false, .st 1)], none, fun x => f k x.1⟩
noncomputable def tower_Bit.body : Code := Tryz.f62.body.getD .skip
def tower_Bit.calls (k : Nat) : List (Nat × Sig E.toTys) := []
def tower_Bit.cuts : List (Cut E (RT E.toTys [(false, .st 1)])) := [⟨false, 3, ⟨cat [.one (.val (.int .i64))] (cat (ds 1) (cat [.one (.ptr 0 0)] (ds 22))), [.var [.val (.int .u64), .val (.int .u64)]], false⟩, fun k x => tower_Bit.j3 k x.1.1 x.2.1.1 x.2.1.2.1⟩,
  ⟨false, 5, ⟨cat (ds 2) (cat [.one (.ptr 0 0)] (ds 22)), [.var [.val (.int .u64), .val (.int .u64)]], false⟩, fun k x => tower_Bit.j5 k x.2.1.1 x.2.1.2.1⟩]
theorem tower_Bit.ok (k : Nat) : Okf (XR E) Tryz.prog 62 (tower_Bit.sig k) := ⟨fn_ok (C := fun k => tab.ctx fun f => lk f (tower_Bit.calls k)) (fun k => tie _) k (fun j hj => calls_ok (kn)) 400 Tryz.func62 (body := tower_Bit.body) (res := [.cell 2 47]) rfl (by kernel_rfl) tower_Bit.cuts (kc ⟨by kernel_rfl, rfl, fun _ => rfl, fun _ _ => by kernel_rfl⟩ (kc ⟨by kernel_rfl, rfl, fun _ => rfl, fun _ _ => by kernel_rfl⟩ (kn))) (fun x => by kernel_rfl), _, Tryz.func62, by kernel_rfl, by kernel_rfl⟩
/-! ### steeple/octet.Of: function 41 -/
def octet_Of.f (k : Nat) (a0 : Int) (a1 : S47) : Option Bool := if a0 < 0 then some false else if a0 > 7 then some false else if a0 = 7 then some true else if a0 = 6 then some (decide (a1.f0 = 0)) else if a1.f0 = 0 then (if 0 ≤ a0 then (if 0 ≤ shl .u64 1 a0 then some (decide (shr .u64 a1.f1 (shl .u64 1 a0) = 0)) else none) else none) else some false
def octet_Of.sig (k : Nat) : Sig E.toTys := ⟨[.int .i64, .st 1], [(false, .bool)], none, fun x => f k x.1 x.2.1⟩
noncomputable def octet_Of.body : Code := Tryz.f41.body.getD .skip
def octet_Of.calls (k : Nat) : List (Nat × Sig E.toTys) := []
def octet_Of.cuts : List (Cut E (RT E.toTys [(false, .bool)])) := []
theorem octet_Of.ok (k : Nat) : Okf (XR E) Tryz.prog 41 (octet_Of.sig k) := ⟨fn_ok (C := fun k => tab.ctx fun f => lk f (octet_Of.calls k)) (fun k => tie _) k (fun j hj => calls_ok (kn)) 400 Tryz.func41 (body := octet_Of.body) (res := [.tmp 4]) rfl (by kernel_rfl) octet_Of.cuts (kn) (fun x => by kernel_rfl), _, Tryz.func41, by kernel_rfl, by kernel_rfl⟩
/-! ### steeple/linpoly.New$1: function 81 -/
def linpoly_New_1.f (k : Nat) (a0 : S47) (a1 : Option Int) : Option Bool := (match a1 with | none => none | some r0 => (octet_Of.f k r0 a0).bind fun r1 => some (!r1))
def linpoly_New_1.sig (k : Nat) : Sig E.toTys := ⟨[.st 1, .ptr (.int .i64)], [(false, .bool)], none, fun x => f k x.1 x.2.1⟩
noncomputable def linpoly_New_1.body : Code := Tryz.f81.body.getD .skip
def linpoly_New_1.calls (k : Nat) : List (Nat × Sig E.toTys) := [(41, octet_Of.sig k)]
def linpoly_New_1.cuts : List (Cut E (RT E.toTys [(false, .bool)])) := []
theorem linpoly_New_1.ok (k : Nat) : Okf (XR E) Tryz.prog 81 (linpoly_New_1.sig k) := ⟨fn_ok (C := fun k => tab.ctx fun f => lk f (linpoly_New_1.calls k)) (fun k => tie _) k (fun j hj => calls_ok (kc (octet_Of.ok j) (kn))) 400 Tryz.func81 (body := linpoly_New_1.body) (res := [.tmp 3]) rfl (by kernel_rfl) linpoly_New_1.cuts (kn) (fun x => by kernel_rfl), _, Tryz.func81, by kernel_rfl, by kernel_rfl⟩
/-! ### slices.IndexFunc: function 64 -/
def slices_IndexFunc64_c81.l2 : Nat → List S47 → Int → Int → Int → Option Int
  | 0, _, _, _, _ => none
  | k + 1, x0, x1, x2, x3 => if x3 < x2 then (if 0 ≤ x3 then (if x3 < (x0.length : Int) then ((linpoly_New_1.f k (rd47 x0 x3) (some x1)).bind fun r0 => if r0 = true then some x3 else slices_IndexFunc64_c81.l2 k x0 x1 x2 (wrap64 (x3 + 1))) else none) else none) else some (-1)
def slices_IndexFunc64_c81.f (k : Nat) (a0 : List S47) (a1 : Int) : Option Int := slices_IndexFunc64_c81.l2 k a0 a1 (a0.length : Int) 0
def slices_IndexFunc64_c81.sig (k : Nat) : Sig E.toTys := ⟨[.slice (.st 1), .ext 81 (.int .i64)], [(false, .int .i64)], none, fun x => f k x.1 x.2.1⟩
noncomputable def slices_IndexFunc64_c81.body : Code := Tryz.f64.body.getD .skip
def slices_IndexFunc64_c81.calls (k : Nat) : List (Nat × Sig E.toTys) := [(81, linpoly_New_1.sig k)]
def slices_IndexFunc64_c81.cuts : List (Cut E (RT E.toTys [(false, .int .i64)])) := [⟨true, 2, ⟨cat [.one (.val (.slice (.st 1))), .one (.val (.ext 81 (.int .i64)))] (cat (ds 5) (cat [.one (.val (.int .i64)), .one (.val (.int .i64))] (ds 10))), [], false⟩, fun k x => slices_IndexFunc64_c81.l2 k x.1.1 x.1.2.1 x.1.2.2.1 x.1.2.2.2.1⟩]
theorem slices_IndexFunc64_c81.ok (k : Nat) : Okf (XR E) Tryz.prog 64 (slices_IndexFunc64_c81.sig k) := ⟨fn_ok (C := fun k => tab.ctx fun f => lk f (slices_IndexFunc64_c81.calls k)) (fun k => tie _) k (fun j hj => calls_ok (kc (linpoly_New_1.ok j) (kn))) 400 Tryz.func64 (body := slices_IndexFunc64_c81.body) (res := [.tmp 4]) rfl (by kernel_rfl) slices_IndexFunc64_c81.cuts (kc ⟨by kernel_rfl, rfl, fun _ => rfl, fun _ _ => by kernel_rfl⟩ (kn)) (fun x => by kernel_rfl), _, Tryz.func64, by kernel_rfl, by kernel_rfl⟩
/-! ### slices.ContainsFunc: function 39 -/
def slices_ContainsFunc39_c81.f (k : Nat) (a0 : List S47) (a1 : Int) : Option Bool := (slices_IndexFunc64_c81.f k a0 a1).bind fun r0 => some (decide (r0 ≥ 0))
def slices_ContainsFunc39_c81.sig (k : Nat) : Sig E.toTys := ⟨[.slice (.st 1), .ext 81 (.int .i64)], [(false, .bool)], none, fun x => f k x.1 x.2.1⟩
noncomputable def slices_ContainsFunc39_c81.body : Code := Tryz.f39.body.getD .skip
def slices_ContainsFunc39_c81.calls (k : Nat) : List (Nat × Sig E.toTys) := [(64, slices_IndexFunc64_c81.sig k)]
def slices_ContainsFunc39_c81.cuts : List (Cut E (RT E.toTys [(false, .bool)])) := []
theorem slices_ContainsFunc39_c81.ok (k : Nat) : Okf (XR E) Tryz.prog 39 (slices_ContainsFunc39_c81.sig k) := ⟨fn_ok (C := fun k => tab.ctx fun f => lk f (slices_ContainsFunc39_c81.calls k)) (fun k => tie _) k (fun j hj => calls_ok (kc (slices_IndexFunc64_c81.ok j) (kn))) 400 Tryz.func39 (body := slices_ContainsFunc39_c81.body) (res := [.tmp 4]) rfl (by kernel_rfl) slices_ContainsFunc39_c81.cuts (kn) (fun x => by kernel_rfl), _, Tryz.func39, by kernel_rfl, by kernel_rfl⟩
/-! ### math/bits.Len64: function 98 -/
mutual
def math_bits_Len64.j7 : Nat → Int → Int → Option Int
  | 0, _, _ => none
  | k + 1, x0, x1 => if x0 ≥ 256 then math_bits_Len64.j10 k (shr .u64 x0 8) (wrap64 (x1 + 8)) else math_bits_Len64.j10 k x0 x1
def math_bits_Len64.j10 : Nat → Int → Int → Option Int
  | 0, _, _ => none
  | k + 1, x0, x1 => if 0 ≤ IntKind.u8.wrap x0 then (if IntKind.u8.wrap x0 < (ByteArray.size by256_793 : Int) then some (wrap64 (x1 + (wrap64 (bt by256_793 (IntKind.u8.wrap x0))))) else none) else none
end
def math_bits_Len64.f (k : Nat) (a0 : Int) : Option Int := if a0 ≥ 4294967296 then (if shr .u64 a0 32 ≥ 65536 then math_bits_Len64.j7 k (shr .u64 (shr .u64 a0 32) 16) (wrap64 ((32 : Int) + 16)) else math_bits_Len64.j7 k (shr .u64 a0 32) 32) else if a0 ≥ 65536 then math_bits_Len64.j7 k (shr .u64 a0 16) (wrap64 ((0 : Int) + 16)) else math_bits_Len64.j7 k a0 0
def math_bits_Len64.sig (k : Nat) : Sig E.toTys := ⟨[.int .u64], [(false, .int .i64)], none, fun x => f k x.1⟩
noncomputable def math_bits_Len64.body : Code := Tryz.f98.body.getD .skip
def math_bits_Len64.calls (k : Nat) : List (Nat × Sig E.toTys) := []
def math_bits_Len64.cuts : List (Cut E (RT E.toTys [(false, .int .i64)])) := [⟨false, 7, ⟨cat [.one (.val (.int .u64))] (cat (ds 1) (cat [.one (.val (.int .i64))] (ds 22))), [], false⟩, fun k x => math_bits_Len64.j7 k x.1.1 x.1.2.1⟩,
  ⟨false, 10, ⟨cat [.one (.val (.int .u64))] (cat (ds 1) (cat [.one (.val (.int .i64))] (ds 22))), [], false⟩, fun k x => math_bits_Len64.j10 k x.1.1 x.1.2.1⟩]
theorem math_bits_Len64.ok (k : Nat) : Okf (XR E) Tryz.prog 98 (math_bits_Len64.sig k) := ⟨fn_ok (C := fun k => tab.ctx fun f => lk f (math_bits_Len64.calls k)) (fun k => tie _) k (fun j hj => calls_ok (kn)) 400 Tryz.func98 (body := math_bits_Len64.body) (res := [.tmp 2]) rfl (by kernel_rfl) math_bits_Len64.cuts (kc ⟨by kernel_rfl, rfl, fun _ => rfl, fun _ _ => by kernel_rfl⟩ (kc ⟨by kernel_rfl, rfl, fun _ => rfl, fun _ _ => by kernel_rfl⟩ (kn))) (fun x => by kernel_rfl), _, Tryz.func98, by kernel_rfl, by kernel_rfl⟩
/-! ### steeple/span.lead: function 95 -/
def span_lead.f (k : Nat) (a0 : S47) : Option Int := if a0.f0 = 0 then ((math_bits_Len64.f k a0.f1).bind fun r0 => some (wrap64 (r0 - 1))) else (math_bits_Len64.f k a0.f0).bind fun r1 => some (wrap64 (63 + r1))
def span_lead.sig (k : Nat) : Sig E.toTys := ⟨[.st 1], [(false, .int .i64)], none, fun x => f k x.1⟩
noncomputable def span_lead.body : Code := Tryz.f95.body.getD .skip
def span_lead.calls (k : Nat) : List (Nat × Sig E.toTys) := [(98, math_bits_Len64.sig k)]
def span_lead.cuts : List (Cut E (RT E.toTys [(false, .int .i64)])) := []
theorem span_lead.ok (k : Nat) : Okf (XR E) Tryz.prog 95 (span_lead.sig k) := ⟨fn_ok (C := fun k => tab.ctx fun f => lk f (span_lead.calls k)) (fun k => tie _) k (fun j hj => calls_ok (kc (math_bits_Len64.ok j) (kn))) 400 Tryz.func95 (body := span_lead.body) (res := [.tmp 2]) rfl (by kernel_rfl) span_lead.cuts (kn) (fun x => by kernel_rfl), _, Tryz.func95, by kernel_rfl, by kernel_rfl⟩
/-! ### steeple/span.has: function 94 -/
def span_has.f (k : Nat) (a0 : S47) (a1 : Int) : Option Bool := (tower_Bit.f k a1).bind fun r0 => some (!decide (bits .or .u64 (bits .and .u64 a0.f1 r0.f1) (bits .and .u64 a0.f0 r0.f0) = 0))
def span_has.sig (k : Nat) : Sig E.toTys := ⟨[.st 1, .int .i64], [(false, .bool)], none, fun x => f k x.1 x.2.1⟩
noncomputable def span_has.body : Code := Tryz.f94.body.getD .skip
def span_has.calls (k : Nat) : List (Nat × Sig E.toTys) := [(62, tower_Bit.sig k)]
def span_has.cuts : List (Cut E (RT E.toTys [(false, .bool)])) := []
theorem span_has.ok (k : Nat) : Okf (XR E) Tryz.prog 94 (span_has.sig k) := ⟨fn_ok (C := fun k => tab.ctx fun f => lk f (span_has.calls k)) (fun k => tie _) k (fun j hj => calls_ok (kc (tower_Bit.ok j) (kn))) 400 Tryz.func94 (body := span_has.body) (res := [.tmp 4]) rfl (by kernel_rfl) span_has.cuts (kn) (fun x => by kernel_rfl), _, Tryz.func94, by kernel_rfl, by kernel_rfl⟩
/-! ### steeple/tower.Add: function 30 -/
def tower_Add.f (k : Nat) (a0 : S47) (a1 : S47) : Option S47 := some (⟨bits .xor .u64 a0.f0 a1.f0, bits .xor .u64 a0.f1 a1.f1⟩ : S47)
def tower_Add.sig (k : Nat) : Sig E.toTys := ⟨[.st 1, .st 1], [(false, .st 1)], none, fun x => f k x.1 x.2.1⟩
noncomputable def tower_Add.body : Code := Tryz.f30.body.getD .skip
def tower_Add.calls (k : Nat) : List (Nat × Sig E.toTys) := []
def tower_Add.cuts : List (Cut E (RT E.toTys [(false, .st 1)])) := []
theorem tower_Add.ok (k : Nat) : Okf (XR E) Tryz.prog 30 (tower_Add.sig k) := ⟨fn_ok (C := fun k => tab.ctx fun f => lk f (tower_Add.calls k)) (fun k => tie _) k (fun j hj => calls_ok (kn)) 400 Tryz.func30 (body := tower_Add.body) (res := [.cell 4 47]) rfl (by kernel_rfl) tower_Add.cuts (kn) (fun x => by kernel_rfl), _, Tryz.func30, by kernel_rfl, by kernel_rfl⟩
/-! ### steeple/span.less: function 93 -/
def span_less.l2 : Nat → List S47 → Int → Int → Int → Int → Int → Int → Option S47
  | 0, _, _, _, _, _, _, _ => none
  | k + 1, x0, x1, x2, x3, x4, x5, x6 => if x2 < x1 then (if 0 ≤ x2 then (if x2 < (x0.length : Int) then ((span_lead.f k (rd47 x0 x2)).bind fun r0 => (span_has.f k (⟨x3, x4⟩ : S47) r0).bind fun r1 => if r1 = true then ((tower_Add.f k (⟨x3, x4⟩ : S47) (rd47 x0 x2)).bind fun r2 => span_less.l2 k x0 x1 (wrap64 (x2 + 1)) r2.f0 r2.f1 x5 x6) else span_less.l2 k x0 x1 (wrap64 (x2 + 1)) x3 x4 x5 x6) else none) else none) else some (⟨x3, x4⟩ : S47)
def span_less.f (k : Nat) (a0 : List S47) (a1 : S47) : Option S47 := span_less.l2 k a0 (a0.length : Int) 0 a1.f0 a1.f1 0 0
def span_less.sig (k : Nat) : Sig E.toTys := ⟨[.slice (.st 1), .st 1], [(false, .st 1)], none, fun x => f k x.1 x.2.1⟩
noncomputable def span_less.body : Code := Tryz.f93.body.getD .skip
def span_less.calls (k : Nat) : List (Nat × Sig E.toTys) := [(95, span_lead.sig k), (94, span_has.sig k), (30, tower_Add.sig k)]
def span_less.cuts : List (Cut E (RT E.toTys [(false, .st 1)])) := [⟨true, 2, ⟨cat (ds 3) (cat [.one (.ptr 0 0), .one (.ptr 1 0)] (cat (ds 2) (cat [.one (.val (.slice (.st 1))), .one (.val (.int .i64)), .one (.val (.int .i64))] (ds 12)))), [.var [.val (.int .u64), .val (.int .u64)], .var [.val (.int .u64), .val (.int .u64)]], false⟩, fun k x => span_less.l2 k x.1.1 x.1.2.1 x.1.2.2.1 x.2.1.1 x.2.1.2.1 x.2.2.1.1 x.2.2.1.2.1⟩]
theorem span_less.ok (k : Nat) : Okf (XR E) Tryz.prog 93 (span_less.sig k) := ⟨fn_ok (C := fun k => tab.ctx fun f => lk f (span_less.calls k)) (fun k => tie _) k (fun j hj => calls_ok (kc (span_lead.ok j) (kc (span_has.ok j) (kc (tower_Add.ok j) (kn))))) 400 Tryz.func93 (body := span_less.body) (res := [.cell 4 47]) rfl (by kernel_rfl) span_less.cuts (kc ⟨by kernel_rfl, rfl, fun _ => rfl, fun _ _ => by kernel_rfl⟩ (kn)) (fun x => by kernel_rfl), _, Tryz.func93, by kernel_rfl, by kernel_rfl⟩
/-! ### steeple/span.put$1: function 97 -/
def span_put_1.f (k : Nat) (a0 : S47) (a1 : S47) : Option Int := (span_lead.f k a1).bind fun r0 => (span_lead.f k a0).bind fun r1 => some (wrap64 (r0 - r1))
def span_put_1.sig (k : Nat) : Sig E.toTys := ⟨[.st 1, .st 1], [(false, .int .i64)], none, fun x => f k x.1 x.2.1⟩
noncomputable def span_put_1.body : Code := Tryz.f97.body.getD .skip
def span_put_1.calls (k : Nat) : List (Nat × Sig E.toTys) := [(95, span_lead.sig k)]
def span_put_1.cuts : List (Cut E (RT E.toTys [(false, .int .i64)])) := []
theorem span_put_1.ok (k : Nat) : Okf (XR E) Tryz.prog 97 (span_put_1.sig k) := ⟨fn_ok (C := fun k => tab.ctx fun f => lk f (span_put_1.calls k)) (fun k => tie _) k (fun j hj => calls_ok (kc (span_lead.ok j) (kn))) 400 Tryz.func97 (body := span_put_1.body) (res := [.tmp 4]) rfl (by kernel_rfl) span_put_1.cuts (kn) (fun x => by kernel_rfl), _, Tryz.func97, by kernel_rfl, by kernel_rfl⟩
/-! ### math/bits.Len: function 100 -/
def math_bits_Len.f (k : Nat) (a0 : Int) : Option Int := (math_bits_Len64.f k a0).bind fun r0 => some r0
def math_bits_Len.sig (k : Nat) : Sig E.toTys := ⟨[.int .u64], [(false, .int .i64)], none, fun x => f k x.1⟩
noncomputable def math_bits_Len.body : Code := Tryz.f100.body.getD .skip
def math_bits_Len.calls (k : Nat) : List (Nat × Sig E.toTys) := [(98, math_bits_Len64.sig k)]
def math_bits_Len.cuts : List (Cut E (RT E.toTys [(false, .int .i64)])) := []
theorem math_bits_Len.ok (k : Nat) : Okf (XR E) Tryz.prog 100 (math_bits_Len.sig k) := ⟨fn_ok (C := fun k => tab.ctx fun f => lk f (math_bits_Len.calls k)) (fun k => tie _) k (fun j hj => calls_ok (kc (math_bits_Len64.ok j) (kn))) 400 Tryz.func100 (body := math_bits_Len.body) (res := [.tmp 2]) rfl (by kernel_rfl) math_bits_Len.cuts (kn) (fun x => by kernel_rfl), _, Tryz.func100, by kernel_rfl, by kernel_rfl⟩
/-! ### slices.insertionSortCmpFunc: function 101 -/
mutual
def slices_insertionSortCmpFunc101_c97.l1 : Nat → Int → Int → Unit → Int → List S47 → Option (List S47)
  | 0, _, _, _, _, _ => none
  | k + 1, x0, x1, x2, x3, x4 => if x3 < x1 then slices_insertionSortCmpFunc101_c97.l4 k x0 x1 x2 x3 x3 x4 else some x4
def slices_insertionSortCmpFunc101_c97.l4 : Nat → Int → Int → Unit → Int → Int → List S47 → Option (List S47)
  | 0, _, _, _, _, _, _ => none
  | k + 1, x0, x1, x2, x3, x4, x5 => if x4 > x0 then (if 0 ≤ x4 then (if x4 < (x5.length : Int) then (if 0 ≤ wrap64 (x4 - 1) then (if wrap64 (x4 - 1) < (x5.length : Int) then ((span_put_1.f k (rd47 x5 x4) (rd47 x5 (wrap64 (x4 - 1)))).bind fun r0 => if r0 < 0 then (if 0 ≤ wrap64 (x4 - 1) then (if wrap64 (x4 - 1) < (x5.length : Int) then (if 0 ≤ x4 then (if x4 < (x5.length : Int) then (if 0 ≤ x4 then (if x4 < (x5.length : Int) then (if 0 ≤ wrap64 (x4 - 1) then (if wrap64 (x4 - 1) < ((x5.set (Int.toNat x4) (rd47 x5 (wrap64 (x4 - 1)))).length : Int) then slices_insertionSortCmpFunc101_c97.l4 k x0 x1 x2 x3 (wrap64 (x4 - 1)) ((x5.set (Int.toNat x4) (rd47 x5 (wrap64 (x4 - 1)))).set (Int.toNat (wrap64 (x4 - 1))) (rd47 x5 x4)) else none) else none) else none) else none) else none) else none) else none) else none) else slices_insertionSortCmpFunc101_c97.l1 k x0 x1 x2 (wrap64 (x3 + 1)) x5) else none) else none) else none) else none) else slices_insertionSortCmpFunc101_c97.l1 k x0 x1 x2 (wrap64 (x3 + 1)) x5
end
def slices_insertionSortCmpFunc101_c97.f (k : Nat) (a0 : List S47) (a1 : Int) (a2 : Int) (a3 : Unit) : Option (List S47) := slices_insertionSortCmpFunc101_c97.l1 k a1 a2 a3 (wrap64 (a1 + 1)) a0
def slices_insertionSortCmpFunc101_c97.sig (k : Nat) : Sig E.toTys := ⟨[.slice (.st 1), .int .i64, .int .i64, .fnv 97], [(true, .slice (.st 1))], some 0, fun x => f k x.1 x.2.1 x.2.2.1 x.2.2.2.1⟩
noncomputable def slices_insertionSortCmpFunc101_c97.body : Code := Tryz.f101.body.getD .skip
def slices_insertionSortCmpFunc101_c97.calls (k : Nat) : List (Nat × Sig E.toTys) := [(97, span_put_1.sig k)]
def slices_insertionSortCmpFunc101_c97.cuts : List (Cut E (RT E.toTys [(true, .slice (.st 1))])) := [⟨true, 1, ⟨cat [.one (.ref 0), .one (.val (.int .i64)), .one (.val (.int .i64)), .one (.val (.fnv 97))] (cat (ds 4) (cat [.one (.val (.int .i64))] (ds 44))), [.arr (.st 1)], true⟩, fun k x => slices_insertionSortCmpFunc101_c97.l1 k x.1.1 x.1.2.1 x.1.2.2.1 x.1.2.2.2.1 x.2.1⟩,
  ⟨true, 4, ⟨cat [.one (.ref 0), .one (.val (.int .i64)), .one (.val (.int .i64)), .one (.val (.fnv 97))] (cat (ds 4) (cat [.one (.val (.int .i64)), .one (.val (.int .i64))] (ds 43))), [.arr (.st 1)], true⟩, fun k x => slices_insertionSortCmpFunc101_c97.l4 k x.1.1 x.1.2.1 x.1.2.2.1 x.1.2.2.2.1 x.1.2.2.2.2.1 x.2.1⟩]
theorem slices_insertionSortCmpFunc101_c97.ok (k : Nat) : Okf (XR E) Tryz.prog 101 (slices_insertionSortCmpFunc101_c97.sig k) := ⟨fn_okIO (C := fun k => tab.ctx fun f => lk f (slices_insertionSortCmpFunc101_c97.calls k)) (fun k => tie _) k (fun j hj => calls_ok (kc (span_put_1.ok j) (kn))) 400 0 Tryz.func101 (body := slices_insertionSortCmpFunc101_c97.body) (res := []) rfl (by kernel_rfl) slices_insertionSortCmpFunc101_c97.cuts (kc ⟨by kernel_rfl, rfl, fun _ => rfl, fun _ _ => by kernel_rfl⟩ (kc ⟨by kernel_rfl, rfl, fun _ => rfl, fun _ _ => by kernel_rfl⟩ (kn))) (fun x => by kernel_rfl), _, Tryz.func101, by kernel_rfl, by kernel_rfl⟩
/-! ### slices.pdqsortCmpFunc: function 99 -/
def slices_pdqsortCmpFunc99_c97.l2 : Nat → Int → Int → Int → Unit → Bool → Bool → List S47 → Option (List S47)
  | 0, _, _, _, _, _, _, _ => none
  | k + 1, x0, x1, x2, x3, x4, _, x6 => if wrap64 (x1 - x0) ≤ 12 then ((slices_insertionSortCmpFunc101_c97.f k x6 x0 x1 x3).bind fun r0 => some r0) else if x2 = 0 then none else if (!x4) = true then none else none
def slices_pdqsortCmpFunc99_c97.f (k : Nat) (a0 : List S47) (a1 : Int) (a2 : Int) (a3 : Int) (a4 : Unit) : Option (List S47) := slices_pdqsortCmpFunc99_c97.l2 k a1 a2 a3 a4 true true a0
def slices_pdqsortCmpFunc99_c97.sig (k : Nat) : Sig E.toTys := ⟨[.slice (.st 1), .int .i64, .int .i64, .int .i64, .fnv 97], [(true, .slice (.st 1))], some 0, fun x => f k x.1 x.2.1 x.2.2.1 x.2.2.2.1 x.2.2.2.2.1⟩
noncomputable def slices_pdqsortCmpFunc99_c97.body : Code := Tryz.f99.body.getD .skip
def slices_pdqsortCmpFunc99_c97.calls (k : Nat) : List (Nat × Sig E.toTys) := [(101, slices_insertionSortCmpFunc101_c97.sig k)]
def slices_pdqsortCmpFunc99_c97.cuts : List (Cut E (RT E.toTys [(true, .slice (.st 1))])) := [⟨true, 2, ⟨cat [.one (.ref 0), .one (.val (.int .i64)), .one (.val (.int .i64)), .one (.val (.int .i64)), .one (.val (.fnv 97))] (cat (ds 5) (cat [.one (.val (.bool)), .one (.val (.bool))] (ds 136))), [.arr (.st 1)], true⟩, fun k x => slices_pdqsortCmpFunc99_c97.l2 k x.1.1 x.1.2.1 x.1.2.2.1 x.1.2.2.2.1 x.1.2.2.2.2.1 x.1.2.2.2.2.2.1 x.2.1⟩]
theorem slices_pdqsortCmpFunc99_c97.ok (k : Nat) : Okf (XR E) Tryz.prog 99 (slices_pdqsortCmpFunc99_c97.sig k) := ⟨fn_okIO (C := fun k => tab.ctx fun f => lk f (slices_pdqsortCmpFunc99_c97.calls k)) (fun k => tie _) k (fun j hj => calls_ok (kc (slices_insertionSortCmpFunc101_c97.ok j) (kn))) 400 0 Tryz.func99 (body := slices_pdqsortCmpFunc99_c97.body) (res := []) rfl (by kernel_rfl) slices_pdqsortCmpFunc99_c97.cuts (kc ⟨by kernel_rfl, rfl, fun _ => rfl, fun _ _ => by kernel_rfl⟩ (kn)) (fun x => by kernel_rfl), _, Tryz.func99, by kernel_rfl, by kernel_rfl⟩
/-! ### slices.SortFunc: function 96 -/
def slices_SortFunc96_c97.f (k : Nat) (a0 : List S47) (a1 : Unit) : Option (List S47) := (math_bits_Len.f k (IntKind.u64.wrap (a0.length : Int))).bind fun r0 => (slices_pdqsortCmpFunc99_c97.f k a0 0 (a0.length : Int) r0 a1).bind fun r1 => some r1
def slices_SortFunc96_c97.sig (k : Nat) : Sig E.toTys := ⟨[.slice (.st 1), .fnv 97], [(true, .slice (.st 1))], some 0, fun x => f k x.1 x.2.1⟩
noncomputable def slices_SortFunc96_c97.body : Code := Tryz.f96.body.getD .skip
def slices_SortFunc96_c97.calls (k : Nat) : List (Nat × Sig E.toTys) := [(100, math_bits_Len.sig k), (99, slices_pdqsortCmpFunc99_c97.sig k)]
def slices_SortFunc96_c97.cuts : List (Cut E (RT E.toTys [(true, .slice (.st 1))])) := []
theorem slices_SortFunc96_c97.ok (k : Nat) : Okf (XR E) Tryz.prog 96 (slices_SortFunc96_c97.sig k) := ⟨fn_okIO (C := fun k => tab.ctx fun f => lk f (slices_SortFunc96_c97.calls k)) (fun k => tie _) k (fun j hj => calls_ok (kc (math_bits_Len.ok j) (kc (slices_pdqsortCmpFunc99_c97.ok j) (kn)))) 400 0 Tryz.func96 (body := slices_SortFunc96_c97.body) (res := []) rfl (by kernel_rfl) slices_SortFunc96_c97.cuts (kn) (fun x => by kernel_rfl), _, Tryz.func96, by kernel_rfl, by kernel_rfl⟩
/-! ### steeple/span.put: function 92 -/
def span_put.l6 : Nat → List S47 → Int → Int → Int → Int → List S47 → Option (List S47)
  | 0, _, _, _, _, _, _ => none
  | k + 1, x0, x1, x2, x3, x4, x5 => if x2 < x1 then (if 0 ≤ x2 then (if x2 < (x0.length : Int) then ((span_lead.f k (⟨x3, x4⟩ : S47)).bind fun r1 => (span_has.f k (rd47 x0 x2) r1).bind fun r2 => if r2 = true then ((tower_Add.f k (rd47 x0 x2) (⟨x3, x4⟩ : S47)).bind fun r3 => if x5.length + [r3].length ≤ 140737488355328 / 16 then span_put.l6 k x0 x1 (wrap64 (x2 + 1)) x3 x4 (x5 ++ [r3]) else none) else if x5.length + [rd47 x0 x2].length ≤ 140737488355328 / 16 then span_put.l6 k x0 x1 (wrap64 (x2 + 1)) x3 x4 (x5 ++ [rd47 x0 x2]) else none) else none) else none) else if x5.length + [(⟨x3, x4⟩ : S47)].length ≤ 140737488355328 / 16 then ((slices_SortFunc96_c97.f k (x5 ++ [(⟨x3, x4⟩ : S47)]) ()).bind fun r4 => some r4) else none
def span_put.f (k : Nat) (a0 : List S47) (a1 : S47) : Option (List S47) := (span_less.f k a0 a1).bind fun r0 => if r0.f0 = 0 ∧ r0.f1 = 0 then some a0 else span_put.l6 k a0 (a0.length : Int) 0 r0.f0 r0.f1 []
def span_put.sig (k : Nat) : Sig E.toTys := ⟨[.slice (.st 1), .st 1], [(false, .slice (.st 1))], none, fun x => f k x.1 x.2.1⟩
noncomputable def span_put.body : Code := Tryz.f92.body.getD .skip
def span_put.calls (k : Nat) : List (Nat × Sig E.toTys) := [(93, span_less.sig k), (95, span_lead.sig k), (94, span_has.sig k), (30, tower_Add.sig k), (96, slices_SortFunc96_c97.sig k)]
def span_put.cuts : List (Cut E (RT E.toTys [(false, .slice (.st 1))])) := [⟨true, 6, ⟨cat (ds 3) (cat [.one (.ptr 0 0)] (cat (ds 1) (cat [.one (.ref 1)] (cat (ds 9) (cat [.one (.val (.slice (.st 1))), .one (.val (.int .i64)), .one (.val (.int .i64))] (ds 22)))))), [.var [.val (.int .u64), .val (.int .u64)], .arr (.st 1)], false⟩, fun k x => span_put.l6 k x.1.1 x.1.2.1 x.1.2.2.1 x.2.1.1 x.2.1.2.1 x.2.2.1⟩]
theorem span_put.ok (k : Nat) : Okf (XR E) Tryz.prog 92 (span_put.sig k) := ⟨fn_ok (C := fun k => tab.ctx fun f => lk f (span_put.calls k)) (fun k => tie _) k (fun j hj => calls_ok (kc (span_less.ok j) (kc (span_lead.ok j) (kc (span_has.ok j) (kc (tower_Add.ok j) (kc (slices_SortFunc96_c97.ok j) (kn))))))) 400 Tryz.func92 (body := span_put.body) (res := [.tmp 4]) rfl (by kernel_rfl) span_put.cuts (kc ⟨by kernel_rfl, rfl, fun _ => rfl, fun _ _ => by kernel_rfl⟩ (kn)) (fun x => by kernel_rfl), _, Tryz.func92, by kernel_rfl, by kernel_rfl⟩
/-! ### steeple/span.Basis: function 89 -/
def span_Basis.l3 : Nat → List S47 → List S47 → Int → Int → Option (List S47)
  | 0, _, _, _, _ => none
  | k + 1, x0, x1, x2, x3 => if x3 < x2 then (if 0 ≤ x3 then (if x3 < (x1.length : Int) then ((span_put.f k x0 (rd47 x1 x3)).bind fun r0 => span_Basis.l3 k r0 x1 x2 (wrap64 (x3 + 1))) else none) else none) else some x0
def span_Basis.f (k : Nat) (a0 : List S47) : Option (List S47) := span_Basis.l3 k [] a0 (a0.length : Int) 0
def span_Basis.sig (k : Nat) : Sig E.toTys := ⟨[.slice (.st 1)], [(false, .slice (.st 1))], none, fun x => f k x.1⟩
noncomputable def span_Basis.body : Code := Tryz.f89.body.getD .skip
def span_Basis.calls (k : Nat) : List (Nat × Sig E.toTys) := [(92, span_put.sig k)]
def span_Basis.cuts : List (Cut E (RT E.toTys [(false, .slice (.st 1))])) := [⟨true, 3, ⟨cat (ds 3) (cat [.one (.val (.slice (.st 1)))] (cat (ds 2) (cat [.one (.val (.slice (.st 1))), .one (.val (.int .i64)), .one (.val (.int .i64))] (ds 8)))), [], false⟩, fun k x => span_Basis.l3 k x.1.1 x.1.2.1 x.1.2.2.1 x.1.2.2.2.1⟩]
theorem span_Basis.ok (k : Nat) : Okf (XR E) Tryz.prog 89 (span_Basis.sig k) := ⟨fn_ok (C := fun k => tab.ctx fun f => lk f (span_Basis.calls k)) (fun k => tie _) k (fun j hj => calls_ok (kc (span_put.ok j) (kn))) 400 Tryz.func89 (body := span_Basis.body) (res := [.tmp 2]) rfl (by kernel_rfl) span_Basis.cuts (kc ⟨by kernel_rfl, rfl, fun _ => rfl, fun _ _ => by kernel_rfl⟩ (kn)) (fun x => by kernel_rfl), _, Tryz.func89, by kernel_rfl, by kernel_rfl⟩
/-! ### steeple/span.Rank: function 82 -/
def span_Rank.f (k : Nat) (a0 : List S47) : Option Int := (span_Basis.f k a0).bind fun r0 => some (r0.length : Int)
def span_Rank.sig (k : Nat) : Sig E.toTys := ⟨[.slice (.st 1)], [(false, .int .i64)], none, fun x => f k x.1⟩
noncomputable def span_Rank.body : Code := Tryz.f82.body.getD .skip
def span_Rank.calls (k : Nat) : List (Nat × Sig E.toTys) := [(89, span_Basis.sig k)]
def span_Rank.cuts : List (Cut E (RT E.toTys [(false, .int .i64)])) := []
theorem span_Rank.ok (k : Nat) : Okf (XR E) Tryz.prog 82 (span_Rank.sig k) := ⟨fn_ok (C := fun k => tab.ctx fun f => lk f (span_Rank.calls k)) (fun k => tie _) k (fun j hj => calls_ok (kc (span_Basis.ok j) (kn))) 400 Tryz.func82 (body := span_Rank.body) (res := [.tmp 2]) rfl (by kernel_rfl) span_Rank.cuts (kn) (fun x => by kernel_rfl), _, Tryz.func82, by kernel_rfl, by kernel_rfl⟩
/-! ### slices.Clone: function 44 -/
def slices_Clone44.f (k : Nat) (a0 : List S47) : Option (List S47) := if ([] : List Int).length + a0.length ≤ 140737488355328 / 16 then some ([] ++ a0) else none
def slices_Clone44.sig (k : Nat) : Sig E.toTys := ⟨[.slice (.st 1)], [(true, .slice (.st 1))], none, fun x => f k x.1⟩
noncomputable def slices_Clone44.body : Code := Tryz.f44.body.getD .skip
def slices_Clone44.calls (k : Nat) : List (Nat × Sig E.toTys) := []
def slices_Clone44.cuts : List (Cut E (RT E.toTys [(true, .slice (.st 1))])) := []
noncomputable def slices_Clone44.fn0 : Func := Tryz.f44
def slices_Clone44.st0 (xs : List S47) : St E.toTys := ⟨[.c (.s (.val (.slice (.st 1)) xs)), .c (.s .dead), .c (.s .emp), .c (.s .dead), .c (.s .dead), .c (.s .dead), .c (.s .dead), .c (.s .dead)], []⟩
theorem slices_Clone44.ok (k : Nat) : Okf (XR E) Tryz.prog 44 (slices_Clone44.sig k) := ⟨clone_ok (C := tab.ctx fun f => lk f (slices_Clone44.calls k)) (tie _) (calls_ok kn) (t := 24) (u := .st 1) Tryz.func44 rfl (res := [.tmp 2]) (by kernel_rfl) ⟨rfl, rfl, rfl⟩ ⟨rfl, rfl, rfl⟩ (by kernel_rfl) slices_Clone44.st0 (fun x => by kernel_rfl) (fun _ => rfl) (fun _ _ => ⟨rfl, rfl⟩) (F := fun x => slices_Clone44.f k x) (by kernel_rfl) (fun xs => by kernel_rfl), _, Tryz.func44, by kernel_rfl, by kernel_rfl⟩
/-! ### steeple/tower.halves: function 77 -/
def tower_halves.f (k : Nat) (a0 : Int) (a1 : Int) : Option (Int × Int) := if 0 ≤ wrap64 (a0 - 1) then (if 0 ≤ shl .i64 1 (wrap64 (a0 - 1)) then (if 0 ≤ shl .i64 1 (wrap64 (a0 - 1)) then some (shr .u64 a1 (shl .i64 1 (wrap64 (a0 - 1))), bits .and .u64 a1 (IntKind.u64.wrap ((shl .u64 1 (shl .i64 1 (wrap64 (a0 - 1)))) - 1))) else none) else none) else none
def tower_halves.sig (k : Nat) : Sig E.toTys := ⟨[.int .i64, .int .u64], [(false, .int .u64), (false, .int .u64)], none, fun x => f k x.1 x.2.1⟩
noncomputable def tower_halves.body : Code := Tryz.f77.body.getD .skip
def tower_halves.calls (k : Nat) : List (Nat × Sig E.toTys) := []
def tower_halves.cuts : List (Cut E (RT E.toTys [(false, .int .u64), (false, .int .u64)])) := []
theorem tower_halves.ok (k : Nat) : Okf (XR E) Tryz.prog 77 (tower_halves.sig k) := ⟨fn_ok (C := fun k => tab.ctx fun f => lk f (tower_halves.calls k)) (fun k => tie _) k (fun j hj => calls_ok (kn)) 400 Tryz.func77 (body := tower_halves.body) (res := [.tmp 4, .tmp 5]) rfl (by kernel_rfl) tower_halves.cuts (kn) (fun x => by kernel_rfl), _, Tryz.func77, by kernel_rfl, by kernel_rfl⟩
/-! ### steeple/tower.join: function 78 -/
def tower_join.f (k : Nat) (a0 : Int) (a1 : Int) (a2 : Int) : Option Int := if 0 ≤ wrap64 (a0 - 1) then (if 0 ≤ shl .u64 1 (wrap64 (a0 - 1)) then some (bits .or .u64 (shl .u64 a1 (shl .u64 1 (wrap64 (a0 - 1)))) a2) else none) else none
def tower_join.sig (k : Nat) : Sig E.toTys := ⟨[.int .i64, .int .u64, .int .u64], [(false, .int .u64)], none, fun x => f k x.1 x.2.1 x.2.2.1⟩
noncomputable def tower_join.body : Code := Tryz.f78.body.getD .skip
def tower_join.calls (k : Nat) : List (Nat × Sig E.toTys) := []
def tower_join.cuts : List (Cut E (RT E.toTys [(false, .int .u64)])) := []
theorem tower_join.ok (k : Nat) : Okf (XR E) Tryz.prog 78 (tower_join.sig k) := ⟨fn_ok (C := fun k => tab.ctx fun f => lk f (tower_join.calls k)) (fun k => tie _) k (fun j hj => calls_ok (kn)) 400 Tryz.func78 (body := tower_join.body) (res := [.tmp 6]) rfl (by kernel_rfl) tower_join.cuts (kn) (fun x => by kernel_rfl), _, Tryz.func78, by kernel_rfl, by kernel_rfl⟩
/-! ### steeple/tower.mulX: function 59 -/
def tower_mulX.f : Nat → Int → Int → Option Int
  | 0, _, _ => none
  | k + 1, a0, a1 => if a0 = 0 then some a1 else (tower_halves.f k a0 a1).bind fun r0 => (tower_mulX.f k (wrap64 (a0 - 1)) r0.1).bind fun r1 => (tower_join.f k a0 (bits .xor .u64 r0.2 r1) r0.1).bind fun r2 => some r2
def tower_mulX.sig (k : Nat) : Sig E.toTys := ⟨[.int .i64, .int .u64], [(false, .int .u64)], none, fun x => f k x.1 x.2.1⟩
noncomputable def tower_mulX.body : Code := Tryz.f59.body.getD .skip
def tower_mulX.calls (k : Nat) : List (Nat × Sig E.toTys) := [(77, tower_halves.sig k), (59, tower_mulX.sig k), (78, tower_join.sig k)]
def tower_mulX.cuts : List (Cut E (RT E.toTys [(false, .int .u64)])) := []
theorem tower_mulX.oks (k : Nat) : Okf (XR E) Tryz.prog 59 (tower_mulX.sig k) := by
  induction k using Nat.strongRecOn with
  | ind k ih =>
  cases k with
  | zero => exact ⟨ok0 fun _ => rfl, _, Tryz.func59, by kernel_rfl, by kernel_rfl⟩
  | succ k => exact ⟨fn_ok (C := fun k => tab.ctx fun f => lk f (tower_mulX.calls k)) (fun k => tie _) k (fun j hj => calls_ok (kc (tower_halves.ok j) (kc (ih j (Nat.lt_succ_of_le hj)) (kc (tower_join.ok j) (kn))))) 400 Tryz.func59 (body := tower_mulX.body) (res := [.tmp 4]) rfl (by kernel_rfl) tower_mulX.cuts (kn) (fun x => by kernel_rfl), _, Tryz.func59, by kernel_rfl, by kernel_rfl⟩
theorem tower_mulX.ok (k : Nat) : Okf (XR E) Tryz.prog 59 (tower_mulX.sig k) := (tower_mulX.oks k)
/-! ### steeple/tower.mul: function 58 -/
mutual
def tower_mul.j2 : Nat → Int → Int → Option Int
  | 0, _, _ => none
  | k + 1, x0, x1 => some (bits .and .u64 (bits .and .u64 x0 x1) 1)
def tower_mul.f : Nat → Int → Int → Int → Option Int
  | 0, _, _, _ => none
  | k + 1, a0, a1, a2 => if a0 = 0 then tower_mul.j2 k a1 a2 else if a1 = 0 then tower_mul.j2 k a1 a2 else if a2 = 0 then tower_mul.j2 k a1 a2 else (tower_halves.f k a0 a1).bind fun r0 => (tower_halves.f k a0 a2).bind fun r1 => (tower_mul.f k (wrap64 (a0 - 1)) r0.1 r1.1).bind fun r2 => (tower_mul.f k (wrap64 (a0 - 1)) r0.2 r1.2).bind fun r3 => (tower_mul.f k (wrap64 (a0 - 1)) (bits .xor .u64 r0.1 r0.2) (bits .xor .u64 r1.1 r1.2)).bind fun r4 => (tower_mulX.f k (wrap64 (a0 - 1)) r2).bind fun r5 => (tower_join.f k a0 (bits .xor .u64 (bits .xor .u64 (bits .xor .u64 r4 r2) r3) r5) (bits .xor .u64 r3 r2)).bind fun r6 => some r6
end
def tower_mul.sig (k : Nat) : Sig E.toTys := ⟨[.int .i64, .int .u64, .int .u64], [(false, .int .u64)], none, fun x => f k x.1 x.2.1 x.2.2.1⟩
noncomputable def tower_mul.body : Code := Tryz.f58.body.getD .skip
def tower_mul.calls (k : Nat) : List (Nat × Sig E.toTys) := [(77, tower_halves.sig k), (58, tower_mul.sig k), (59, tower_mulX.sig k), (78, tower_join.sig k)]
def tower_mul.cuts : List (Cut E (RT E.toTys [(false, .int .u64)])) := [⟨false, 2, ⟨cat (ds 1) (cat [.one (.val (.int .u64)), .one (.val (.int .u64))] (ds 71)), [], false⟩, fun k x => tower_mul.j2 k x.1.1 x.1.2.1⟩]
theorem tower_mul.oks (k : Nat) : Okf (XR E) Tryz.prog 58 (tower_mul.sig k) := by
  induction k using Nat.strongRecOn with
  | ind k ih =>
  cases k with
  | zero => exact ⟨ok0 fun _ => rfl, _, Tryz.func58, by kernel_rfl, by kernel_rfl⟩
  | succ k => exact ⟨fn_ok (C := fun k => tab.ctx fun f => lk f (tower_mul.calls k)) (fun k => tie _) k (fun j hj => calls_ok (kc (tower_halves.ok j) (kc (ih j (Nat.lt_succ_of_le hj)) (kc (tower_mulX.ok j) (kc (tower_join.ok j) (kn)))))) 400 Tryz.func58 (body := tower_mul.body) (res := [.tmp 6]) rfl (by kernel_rfl) tower_mul.cuts (kc ⟨by kernel_rfl, rfl, fun _ => rfl, fun _ _ => by kernel_rfl⟩ (kn)) (fun x => by kernel_rfl), _, Tryz.func58, by kernel_rfl, by kernel_rfl⟩
theorem tower_mul.ok (k : Nat) : Okf (XR E) Tryz.prog 58 (tower_mul.sig k) := (tower_mul.oks k)
/-! ### steeple/tower.Mul: function 33 -/
def tower_Mul.f (k : Nat) (a0 : Int) (a1 : S47) (a2 : S47) : Option S47 := (octet_Of.f k a0 a1).bind fun r0 => if (!r0) = true then some (⟨0, 0⟩ : S47) else (octet_Of.f k a0 a2).bind fun r1 => if (!r1) = true then some (⟨0, 0⟩ : S47) else if a0 ≤ 6 then ((tower_mul.f k a0 a1.f1 a2.f1).bind fun r2 => some (⟨0, r2⟩ : S47)) else (tower_mul.f k 6 a1.f0 a2.f0).bind fun r3 => (tower_mul.f k 6 a1.f1 a2.f1).bind fun r4 => (tower_mul.f k 6 (bits .xor .u64 a1.f0 a1.f1) (bits .xor .u64 a2.f0 a2.f1)).bind fun r5 => (tower_mulX.f k 6 r3).bind fun r6 => some (⟨bits .xor .u64 (bits .xor .u64 (bits .xor .u64 r5 r3) r4) r6, bits .xor .u64 r4 r3⟩ : S47)
def tower_Mul.sig (k : Nat) : Sig E.toTys := ⟨[.int .i64, .st 1, .st 1], [(false, .st 1)], none, fun x => f k x.1 x.2.1 x.2.2.1⟩
noncomputable def tower_Mul.body : Code := Tryz.f33.body.getD .skip
def tower_Mul.calls (k : Nat) : List (Nat × Sig E.toTys) := [(41, octet_Of.sig k), (58, tower_mul.sig k), (59, tower_mulX.sig k)]
def tower_Mul.cuts : List (Cut E (RT E.toTys [(false, .st 1)])) := []
theorem tower_Mul.ok (k : Nat) : Okf (XR E) Tryz.prog 33 (tower_Mul.sig k) := ⟨fn_ok (C := fun k => tab.ctx fun f => lk f (tower_Mul.calls k)) (fun k => tie _) k (fun j hj => calls_ok (kc (octet_Of.ok j) (kc (tower_mul.ok j) (kc (tower_mulX.ok j) (kn))))) 400 Tryz.func33 (body := tower_Mul.body) (res := [.cell 6 47]) rfl (by kernel_rfl) tower_Mul.cuts (kn) (fun x => by kernel_rfl), _, Tryz.func33, by kernel_rfl, by kernel_rfl⟩
/-! ### (*steeple/linpoly.Space).value: function 83 -/
def linpoly_Space_value.j2 : Nat → Option S84 → Int → Int → Int → Int → Int → Int → Option S47
  | 0, _, _, _, _, _, _, _ => none
  | k + 1, x0, x1, x2, x3, x4, x5, x6 => if x2 < x1 then ((match x0 with | none => none | some r0 => (match x0 with | none => none | some r1 => if 0 ≤ x2 then (if x2 < (r1.f2.length : Int) then ((tower_Add.f k (⟨x3, x4⟩ : S47) (rd47 r1.f2 x2)).bind fun r2 => (tower_Mul.f k r0.f0 (⟨x3, x4⟩ : S47) r2).bind fun r3 => linpoly_Space_value.j2 k x0 x1 (wrap64 (x2 + 1)) r3.f0 r3.f1 x5 x6) else none) else none))) else some (⟨x3, x4⟩ : S47)
def linpoly_Space_value.f (k : Nat) (a0 : Option S84) (a1 : Int) (a2 : S47) : Option S47 := linpoly_Space_value.j2 k a0 a1 0 a2.f0 a2.f1 0 0
def linpoly_Space_value.sig (k : Nat) : Sig E.toTys := ⟨[.ptr (.st 2), .int .i64, .st 1], [(false, .st 1)], none, fun x => f k x.1 x.2.1 x.2.2.1⟩
noncomputable def linpoly_Space_value.body : Code := Tryz.f83.body.getD .skip
def linpoly_Space_value.calls (k : Nat) : List (Nat × Sig E.toTys) := [(30, tower_Add.sig k), (33, tower_Mul.sig k)]
def linpoly_Space_value.cuts : List (Cut E (RT E.toTys [(false, .st 1)])) := [⟨false, 2, ⟨cat [.one (.val (.ptr (.st 2))), .one (.val (.int .i64))] (cat (ds 3) (cat [.one (.ptr 0 0), .one (.ptr 1 0), .one (.val (.int .i64))] (ds 21))), [.var [.val (.int .u64), .val (.int .u64)], .var [.val (.int .u64), .val (.int .u64)]], false⟩, fun k x => linpoly_Space_value.j2 k x.1.1 x.1.2.1 x.1.2.2.1 x.2.1.1 x.2.1.2.1 x.2.2.1.1 x.2.2.1.2.1⟩]
theorem linpoly_Space_value.ok (k : Nat) : Okf (XR E) Tryz.prog 83 (linpoly_Space_value.sig k) := ⟨fn_ok (C := fun k => tab.ctx fun f => lk f (linpoly_Space_value.calls k)) (fun k => tie _) k (fun j hj => calls_ok (kc (tower_Add.ok j) (kc (tower_Mul.ok j) (kn)))) 400 Tryz.func83 (body := linpoly_Space_value.body) (res := [.cell 6 47]) rfl (by kernel_rfl) linpoly_Space_value.cuts (kc ⟨by kernel_rfl, rfl, fun _ => rfl, fun _ _ => by kernel_rfl⟩ (kn)) (fun x => by kernel_rfl), _, Tryz.func83, by kernel_rfl, by kernel_rfl⟩
/-! ### steeple/tower.square: function 76 -/
def tower_square.f : Nat → Int → Int → Option Int
  | 0, _, _ => none
  | k + 1, a0, a1 => if a0 = 0 then some a1 else (tower_halves.f k a0 a1).bind fun r0 => (tower_square.f k (wrap64 (a0 - 1)) r0.1).bind fun r1 => (tower_mulX.f k (wrap64 (a0 - 1)) r1).bind fun r2 => (tower_square.f k (wrap64 (a0 - 1)) r0.2).bind fun r3 => (tower_join.f k a0 r2 (bits .xor .u64 r3 r1)).bind fun r4 => some r4
def tower_square.sig (k : Nat) : Sig E.toTys := ⟨[.int .i64, .int .u64], [(false, .int .u64)], none, fun x => f k x.1 x.2.1⟩
noncomputable def tower_square.body : Code := Tryz.f76.body.getD .skip
def tower_square.calls (k : Nat) : List (Nat × Sig E.toTys) := [(77, tower_halves.sig k), (76, tower_square.sig k), (59, tower_mulX.sig k), (78, tower_join.sig k)]
def tower_square.cuts : List (Cut E (RT E.toTys [(false, .int .u64)])) := []
theorem tower_square.oks (k : Nat) : Okf (XR E) Tryz.prog 76 (tower_square.sig k) := by
  induction k using Nat.strongRecOn with
  | ind k ih =>
  cases k with
  | zero => exact ⟨ok0 fun _ => rfl, _, Tryz.func76, by kernel_rfl, by kernel_rfl⟩
  | succ k => exact ⟨fn_ok (C := fun k => tab.ctx fun f => lk f (tower_square.calls k)) (fun k => tie _) k (fun j hj => calls_ok (kc (tower_halves.ok j) (kc (ih j (Nat.lt_succ_of_le hj)) (kc (tower_mulX.ok j) (kc (tower_join.ok j) (kn)))))) 400 Tryz.func76 (body := tower_square.body) (res := [.tmp 4]) rfl (by kernel_rfl) tower_square.cuts (kn) (fun x => by kernel_rfl), _, Tryz.func76, by kernel_rfl, by kernel_rfl⟩
theorem tower_square.ok (k : Nat) : Okf (XR E) Tryz.prog 76 (tower_square.sig k) := (tower_square.oks k)
/-! ### steeple/tower.inv: function 75 -/
def tower_inv.f : Nat → Int → Int → Option Int
  | 0, _, _ => none
  | k + 1, a0, a1 => if a0 = 0 then some a1 else (tower_halves.f k a0 a1).bind fun r0 => (tower_mulX.f k (wrap64 (a0 - 1)) r0.1).bind fun r1 => (tower_mul.f k (wrap64 (a0 - 1)) r0.2 (bits .xor .u64 r0.2 r1)).bind fun r2 => (tower_square.f k (wrap64 (a0 - 1)) r0.1).bind fun r3 => (tower_inv.f k (wrap64 (a0 - 1)) (bits .xor .u64 r2 r3)).bind fun r4 => (tower_mul.f k (wrap64 (a0 - 1)) r0.1 r4).bind fun r5 => (tower_mul.f k (wrap64 (a0 - 1)) (bits .xor .u64 r0.2 r1) r4).bind fun r6 => (tower_join.f k a0 r5 r6).bind fun r7 => some r7
def tower_inv.sig (k : Nat) : Sig E.toTys := ⟨[.int .i64, .int .u64], [(false, .int .u64)], none, fun x => f k x.1 x.2.1⟩
noncomputable def tower_inv.body : Code := Tryz.f75.body.getD .skip
def tower_inv.calls (k : Nat) : List (Nat × Sig E.toTys) := [(77, tower_halves.sig k), (59, tower_mulX.sig k), (58, tower_mul.sig k), (76, tower_square.sig k), (75, tower_inv.sig k), (78, tower_join.sig k)]
def tower_inv.cuts : List (Cut E (RT E.toTys [(false, .int .u64)])) := []
theorem tower_inv.oks (k : Nat) : Okf (XR E) Tryz.prog 75 (tower_inv.sig k) := by
  induction k using Nat.strongRecOn with
  | ind k ih =>
  cases k with
  | zero => exact ⟨ok0 fun _ => rfl, _, Tryz.func75, by kernel_rfl, by kernel_rfl⟩
  | succ k => exact ⟨fn_ok (C := fun k => tab.ctx fun f => lk f (tower_inv.calls k)) (fun k => tie _) k (fun j hj => calls_ok (kc (tower_halves.ok j) (kc (tower_mulX.ok j) (kc (tower_mul.ok j) (kc (tower_square.ok j) (kc (ih j (Nat.lt_succ_of_le hj)) (kc (tower_join.ok j) (kn)))))))) 400 Tryz.func75 (body := tower_inv.body) (res := [.tmp 4]) rfl (by kernel_rfl) tower_inv.cuts (kn) (fun x => by kernel_rfl), _, Tryz.func75, by kernel_rfl, by kernel_rfl⟩
theorem tower_inv.ok (k : Nat) : Okf (XR E) Tryz.prog 75 (tower_inv.sig k) := (tower_inv.oks k)
/-! ### steeple/tower.Inv: function 57 -/
def tower_Inv.f (k : Nat) (a0 : Int) (a1 : S47) : Option S47 := (octet_Of.f k a0 a1).bind fun r0 => if (!r0) = true then some (⟨0, 0⟩ : S47) else if a0 ≤ 6 then ((tower_inv.f k a0 a1.f1).bind fun r1 => some (⟨0, r1⟩ : S47)) else (tower_mulX.f k 6 a1.f0).bind fun r2 => (tower_mul.f k 6 a1.f1 (bits .xor .u64 a1.f1 r2)).bind fun r3 => (tower_square.f k 6 a1.f0).bind fun r4 => (tower_inv.f k 6 (bits .xor .u64 r3 r4)).bind fun r5 => (tower_mul.f k 6 a1.f0 r5).bind fun r6 => (tower_mul.f k 6 (bits .xor .u64 a1.f1 r2) r5).bind fun r7 => some (⟨r6, r7⟩ : S47)
def tower_Inv.sig (k : Nat) : Sig E.toTys := ⟨[.int .i64, .st 1], [(false, .st 1)], none, fun x => f k x.1 x.2.1⟩
noncomputable def tower_Inv.body : Code := Tryz.f57.body.getD .skip
def tower_Inv.calls (k : Nat) : List (Nat × Sig E.toTys) := [(41, octet_Of.sig k), (75, tower_inv.sig k), (59, tower_mulX.sig k), (58, tower_mul.sig k), (76, tower_square.sig k)]
def tower_Inv.cuts : List (Cut E (RT E.toTys [(false, .st 1)])) := []
theorem tower_Inv.ok (k : Nat) : Okf (XR E) Tryz.prog 57 (tower_Inv.sig k) := ⟨fn_ok (C := fun k => tab.ctx fun f => lk f (tower_Inv.calls k)) (fun k => tie _) k (fun j hj => calls_ok (kc (octet_Of.ok j) (kc (tower_inv.ok j) (kc (tower_mulX.ok j) (kc (tower_mul.ok j) (kc (tower_square.ok j) (kn))))))) 400 Tryz.func57 (body := tower_Inv.body) (res := [.cell 4 47]) rfl (by kernel_rfl) tower_Inv.cuts (kn) (fun x => by kernel_rfl), _, Tryz.func57, by kernel_rfl, by kernel_rfl⟩
/-! ### steeple/linpoly.New: function 63 -/
def linpoly_New.l11 : Nat → List S47 → Int → Int → Int → Int → List S47 → List S47 → List S47 → Option ((Option S84) × Int)
  | 0, _, _, _, _, _, _, _, _ => none
  | k + 1, x0, x1, x2, x3, x4, x5, x6, x7 => if x2 < x1 then (if 0 ≤ x2 then (if x2 < (x0.length : Int) then ((linpoly_Space_value.f k (some (⟨x4, x5, x6, x7⟩ : S84)) x2 (rd47 x0 x2)).bind fun r4 => if x6.length + [r4].length ≤ 140737488355328 / 16 then ((tower_Inv.f k x3 r4).bind fun r5 => if x7.length + [r5].length ≤ 140737488355328 / 16 then linpoly_New.l11 k x0 x1 (wrap64 (x2 + 1)) x3 x4 x5 (x6 ++ [r4]) (x7 ++ [r5]) else none) else none) else none) else none) else some (some (⟨x4, x5, x6, x7⟩ : S84), 0)
def linpoly_New.f (k : Nat) (a0 : Int) (a1 : List S47) : Option ((Option S84) × Int) := (octet_Wide.f k a0).bind fun r0 => if r0 = 0 then some (none, 1) else if (a1.length : Int) > 10 then some (none, 2) else (slices_ContainsFunc39_c81.f k a1 a0).bind fun r1 => if r1 = true then some (none, 5) else (span_Rank.f k a1).bind fun r2 => if r2 < (a1.length : Int) then some (none, 7) else (slices_Clone44.f k a1).bind fun r3 => linpoly_New.l11 k a1 (a1.length : Int) 0 a0 a0 r3 [] []
def linpoly_New.sig (k : Nat) : Sig E.toTys := ⟨[.int .i64, .slice (.st 1)], [(false, .ptr (.st 2)), (false, .int .i64)], none, fun x => f k x.1 x.2.1⟩
noncomputable def linpoly_New.body : Code := Tryz.f63.body.getD .skip
def linpoly_New.calls (k : Nat) : List (Nat × Sig E.toTys) := [(37, octet_Wide.sig k), (39, slices_ContainsFunc39_c81.sig k), (82, span_Rank.sig k), (44, slices_Clone44.sig k), (83, linpoly_Space_value.sig k), (57, tower_Inv.sig k)]
def linpoly_New.cuts : List (Cut E (RT E.toTys [(false, .ptr (.st 2)), (false, .int .i64)])) := [⟨true, 11, ⟨cat (ds 2) (cat [.one (.ptr 0 0)] (cat (ds 3) (cat [.one (.ptr 1 0)] (cat (ds 26) (cat [.one (.val (.slice (.st 1))), .one (.val (.int .i64)), .one (.val (.int .i64))] (ds 32)))))), [.var [.val (.int .i64)], .var [.val (.int .i64), .ref 2, .ref 3, .ref 4], .arr (.st 1), .arr (.st 1), .arr (.st 1)], false⟩, fun k x => linpoly_New.l11 k x.1.1 x.1.2.1 x.1.2.2.1 x.2.1.1 x.2.2.1.1 x.2.2.2.1 x.2.2.2.2.1 x.2.2.2.2.2.1⟩]
theorem linpoly_New.ok (k : Nat) : Okf (XR E) Tryz.prog 63 (linpoly_New.sig k) := ⟨fn_ok (C := fun k => (tab.ctx fun f => lk f (linpoly_New.calls k)).pmd [(14, 5, [1]), (14, 6, [6]), (14, 7, []), (14, 8, [3]), (14, 12, [1]), (14, 13, [0]), (14, 14, [6]), (14, 15, []), (14, 16, []), (14, 17, [4]), (14, 20, [1]), (14, 23, [1])]) (fun k => (tie _).pmd _) k (fun j hj => (calls_ok (kc (octet_Wide.ok j) (kc (slices_ContainsFunc39_c81.ok j) (kc (span_Rank.ok j) (kc (slices_Clone44.ok j) (kc (linpoly_Space_value.ok j) (kc (tower_Inv.ok j) (kn)))))))).pmd _) 400 Tryz.func63 (body := linpoly_New.body) (res := [.tmp 4, .tmp 5]) rfl (by kernel_rfl) linpoly_New.cuts (kc ⟨by kernel_rfl, rfl, fun _ => rfl, fun _ _ => by kernel_rfl⟩ (kn)) (fun x => by kernel_rfl), _, Tryz.func63, by kernel_rfl, by kernel_rfl⟩
/-! ### steeple/linpoly.Plain: function 38 -/
def linpoly_Plain.l9 : Nat → Int → Int → Int → List S47 → Option ((Option S84) × Int)
  | 0, _, _, _, _ => none
  | k + 1, x0, x1, x2, x3 => if x2 < x1 then ((tower_Bit.f k x2).bind fun r1 => if x3.length + [r1].length ≤ 140737488355328 / 16 then linpoly_Plain.l9 k x0 x1 (wrap64 (x2 + 1)) (x3 ++ [r1]) else none) else (linpoly_New.f k x0 x3).bind fun r2 => some (r2.1, r2.2)
def linpoly_Plain.f (k : Nat) (a0 : Int) (a1 : Int) : Option ((Option S84) × Int) := (octet_Wide.f k a0).bind fun r0 => if r0 = 0 then some (none, 1) else if a1 < 0 then some (none, 1) else if a1 > 10 then some (none, 2) else if 0 ≤ a0 then (if a1 > shl .i64 1 a0 then some (none, 7) else linpoly_Plain.l9 k a0 a1 0 []) else none
def linpoly_Plain.sig (k : Nat) : Sig E.toTys := ⟨[.int .i64, .int .i64], [(false, .ptr (.st 2)), (false, .int .i64)], none, fun x => f k x.1 x.2.1⟩
noncomputable def linpoly_Plain.body : Code := Tryz.f38.body.getD .skip
def linpoly_Plain.calls (k : Nat) : List (Nat × Sig E.toTys) := [(37, octet_Wide.sig k), (62, tower_Bit.sig k), (63, linpoly_New.sig k)]
def linpoly_Plain.cuts : List (Cut E (RT E.toTys [(false, .ptr (.st 2)), (false, .int .i64)])) := [⟨true, 9, ⟨cat [.one (.val (.int .i64))] (cat (ds 5) (cat [.one (.ref 0)] (cat (ds 17) (cat [.one (.val (.int .i64)), .one (.val (.int .i64))] (ds 13))))), [.arr (.st 1)], false⟩, fun k x => linpoly_Plain.l9 k x.1.1 x.1.2.1 x.1.2.2.1 x.2.1⟩]
theorem linpoly_Plain.ok (k : Nat) : Okf (XR E) Tryz.prog 38 (linpoly_Plain.sig k) := ⟨fn_ok (C := fun k => tab.ctx fun f => lk f (linpoly_Plain.calls k)) (fun k => tie _) k (fun j hj => calls_ok (kc (octet_Wide.ok j) (kc (tower_Bit.ok j) (kc (linpoly_New.ok j) (kn))))) 400 Tryz.func38 (body := linpoly_Plain.body) (res := [.tmp 4, .tmp 5]) rfl (by kernel_rfl) linpoly_Plain.cuts (kc ⟨by kernel_rfl, rfl, fun _ => rfl, fun _ _ => by kernel_rfl⟩ (kn)) (fun x => by kernel_rfl), _, Tryz.func38, by kernel_rfl, by kernel_rfl⟩
/-! ### steeple/code.New: function 17 -/
def code_New.f (k : Nat) (a0 : Int) (a1 : Int) (a2 : Int) : Option ((Option S53) × Int) := (octet_Wide.f k a0).bind fun r0 => if r0 = 0 then some (none, 1) else if a1 < 0 then some (none, 1) else if a2 < 0 then some (none, 1) else if a1 > 10 then some (none, 2) else if a2 > wrap64 (10 - a1) then some (none, 2) else if 0 ≤ a0 then (if wrap64 (a1 + a2) > shl .i64 1 a0 then some (none, 2) else (linpoly_Plain.f k a0 (wrap64 (a1 + a2))).bind fun r1 => if r1.2 = 0 then some (some (⟨r1.1, a1⟩ : S53), 0) else some (none, r1.2)) else none
def code_New.sig (k : Nat) : Sig E.toTys := ⟨[.int .i64, .int .i64, .int .i64], [(false, .ptr (.st 3)), (false, .int .i64)], none, fun x => f k x.1 x.2.1 x.2.2.1⟩
noncomputable def code_New.body : Code := Tryz.f17.body.getD .skip
def code_New.calls (k : Nat) : List (Nat × Sig E.toTys) := [(37, octet_Wide.sig k), (38, linpoly_Plain.sig k)]
def code_New.cuts : List (Cut E (RT E.toTys [(false, .ptr (.st 3)), (false, .int .i64)])) := []
theorem code_New.ok (k : Nat) : Okf (XR E) Tryz.prog 17 (code_New.sig k) := ⟨fn_ok (C := fun k => tab.ctx fun f => lk f (code_New.calls k)) (fun k => tie _) k (fun j hj => calls_ok (kc (octet_Wide.ok j) (kc (linpoly_Plain.ok j) (kn)))) 400 Tryz.func17 (body := code_New.body) (res := [.tmp 6, .tmp 7]) rfl (by kernel_rfl) code_New.cuts (kn) (fun x => by kernel_rfl), _, Tryz.func17, by kernel_rfl, by kernel_rfl⟩
/-! ### (steeple/steeplelaw08.Shape).Made: function 4 -/
def steeplelaw08_Shape_Made.f (k : Nat) (a0 : S23) : Option (Option S53) := (steepleref08_Check.f k a0.f0 a0.f1 a0.f2).bind fun r0 => if r0 = 0 then (if wrap64 (a0.f1 + a0.f2) > 5 then some none else (code_New.f k a0.f0 a0.f1 a0.f2).bind fun r1 => some r1.1) else some none
def steeplelaw08_Shape_Made.sig (k : Nat) : Sig E.toTys := ⟨[.st 0], [(false, .ptr (.st 3))], none, fun x => f k x.1⟩
noncomputable def steeplelaw08_Shape_Made.body : Code := Tryz.f4.body.getD .skip
def steeplelaw08_Shape_Made.calls (k : Nat) : List (Nat × Sig E.toTys) := [(16, steepleref08_Check.sig k), (17, code_New.sig k)]
def steeplelaw08_Shape_Made.cuts : List (Cut E (RT E.toTys [(false, .ptr (.st 3))])) := []
theorem steeplelaw08_Shape_Made.ok (k : Nat) : Okf (XR E) Tryz.prog 4 (steeplelaw08_Shape_Made.sig k) := ⟨fn_ok (C := fun k => tab.ctx fun f => lk f (steeplelaw08_Shape_Made.calls k)) (fun k => tie _) k (fun j hj => calls_ok (kc (steepleref08_Check.ok j) (kc (code_New.ok j) (kn)))) 400 Tryz.func4 (body := steeplelaw08_Shape_Made.body) (res := [.tmp 2]) rfl (by kernel_rfl) steeplelaw08_Shape_Made.cuts (kn) (fun x => by kernel_rfl), _, Tryz.func4, by kernel_rfl, by kernel_rfl⟩
/-! ### (*steeple/code.Code).Size: function 10 -/
def code_Code_Size.f (k : Nat) (a0 : Option S53) : Option Int := (match a0 with | none => some 0 | some _ => (match a0 with | none => none | some r0 => if 0 ≤ r0.f1 then some (shl .i64 1 r0.f1) else none))
def code_Code_Size.sig (k : Nat) : Sig E.toTys := ⟨[.ptr (.st 3)], [(false, .int .i64)], none, fun x => f k x.1⟩
noncomputable def code_Code_Size.body : Code := Tryz.f10.body.getD .skip
def code_Code_Size.calls (k : Nat) : List (Nat × Sig E.toTys) := []
def code_Code_Size.cuts : List (Cut E (RT E.toTys [(false, .int .i64)])) := []
theorem code_Code_Size.ok (k : Nat) : Okf (XR E) Tryz.prog 10 (code_Code_Size.sig k) := ⟨fn_ok (C := fun k => tab.ctx fun f => lk f (code_Code_Size.calls k)) (fun k => tie _) k (fun j hj => calls_ok (kn)) 400 Tryz.func10 (body := code_Code_Size.body) (res := [.tmp 2]) rfl (by kernel_rfl) code_Code_Size.cuts (kn) (fun x => by kernel_rfl), _, Tryz.func10, by kernel_rfl, by kernel_rfl⟩
/-! ### (*steeple/linpoly.Space).Level: function 46 -/
def linpoly_Space_Level.f (k : Nat) (a0 : Option S84) : Option Int := (match a0 with | none => some 0 | some _ => (match a0 with | none => none | some r0 => some r0.f0))
def linpoly_Space_Level.sig (k : Nat) : Sig E.toTys := ⟨[.ptr (.st 2)], [(false, .int .i64)], none, fun x => f k x.1⟩
noncomputable def linpoly_Space_Level.body : Code := Tryz.f46.body.getD .skip
def linpoly_Space_Level.calls (k : Nat) : List (Nat × Sig E.toTys) := []
def linpoly_Space_Level.cuts : List (Cut E (RT E.toTys [(false, .int .i64)])) := []
theorem linpoly_Space_Level.ok (k : Nat) : Okf (XR E) Tryz.prog 46 (linpoly_Space_Level.sig k) := ⟨fn_ok (C := fun k => tab.ctx fun f => lk f (linpoly_Space_Level.calls k)) (fun k => tie _) k (fun j hj => calls_ok (kn)) 400 Tryz.func46 (body := linpoly_Space_Level.body) (res := [.tmp 2]) rfl (by kernel_rfl) linpoly_Space_Level.cuts (kn) (fun x => by kernel_rfl), _, Tryz.func46, by kernel_rfl, by kernel_rfl⟩
/-! ### (*steeple/code.Code).Level: function 27 -/
def code_Code_Level.f (k : Nat) (a0 : Option S53) : Option Int := (match a0 with | none => some 0 | some _ => (match a0 with | none => none | some r0 => (linpoly_Space_Level.f k r0.f0).bind fun r1 => some r1))
def code_Code_Level.sig (k : Nat) : Sig E.toTys := ⟨[.ptr (.st 3)], [(false, .int .i64)], none, fun x => f k x.1⟩
noncomputable def code_Code_Level.body : Code := Tryz.f27.body.getD .skip
def code_Code_Level.calls (k : Nat) : List (Nat × Sig E.toTys) := [(46, linpoly_Space_Level.sig k)]
def code_Code_Level.cuts : List (Cut E (RT E.toTys [(false, .int .i64)])) := []
theorem code_Code_Level.ok (k : Nat) : Okf (XR E) Tryz.prog 27 (code_Code_Level.sig k) := ⟨fn_ok (C := fun k => tab.ctx fun f => lk f (code_Code_Level.calls k)) (fun k => tie _) k (fun j hj => calls_ok (kc (linpoly_Space_Level.ok j) (kn))) 400 Tryz.func27 (body := code_Code_Level.body) (res := [.tmp 2]) rfl (by kernel_rfl) code_Code_Level.cuts (kn) (fun x => by kernel_rfl), _, Tryz.func27, by kernel_rfl, by kernel_rfl⟩
/-! ### (*steeple/code.Code).ask$1: function 40 -/
def code_Code_ask_1.f (k : Nat) (a0 : S47) (a1 : Option (Option S53)) : Option Bool := (match a1 with | none => none | some r0 => (code_Code_Level.f k r0).bind fun r1 => (octet_Of.f k r1 a0).bind fun r2 => some (!r2))
def code_Code_ask_1.sig (k : Nat) : Sig E.toTys := ⟨[.st 1, .ptr (.ptr (.st 3))], [(false, .bool)], none, fun x => f k x.1 x.2.1⟩
noncomputable def code_Code_ask_1.body : Code := Tryz.f40.body.getD .skip
def code_Code_ask_1.calls (k : Nat) : List (Nat × Sig E.toTys) := [(27, code_Code_Level.sig k), (41, octet_Of.sig k)]
def code_Code_ask_1.cuts : List (Cut E (RT E.toTys [(false, .bool)])) := []
theorem code_Code_ask_1.ok (k : Nat) : Okf (XR E) Tryz.prog 40 (code_Code_ask_1.sig k) := ⟨fn_ok (C := fun k => tab.ctx fun f => lk f (code_Code_ask_1.calls k)) (fun k => tie _) k (fun j hj => calls_ok (kc (code_Code_Level.ok j) (kc (octet_Of.ok j) (kn)))) 400 Tryz.func40 (body := code_Code_ask_1.body) (res := [.tmp 3]) rfl (by kernel_rfl) code_Code_ask_1.cuts (kn) (fun x => by kernel_rfl), _, Tryz.func40, by kernel_rfl, by kernel_rfl⟩
/-! ### slices.IndexFunc: function 64 -/
def slices_IndexFunc64_c40.l2 : Nat → List S47 → Option S53 → Int → Int → Option Int
  | 0, _, _, _, _ => none
  | k + 1, x0, x1, x2, x3 => if x3 < x2 then (if 0 ≤ x3 then (if x3 < (x0.length : Int) then ((code_Code_ask_1.f k (rd47 x0 x3) (some x1)).bind fun r0 => if r0 = true then some x3 else slices_IndexFunc64_c40.l2 k x0 x1 x2 (wrap64 (x3 + 1))) else none) else none) else some (-1)
def slices_IndexFunc64_c40.f (k : Nat) (a0 : List S47) (a1 : Option S53) : Option Int := slices_IndexFunc64_c40.l2 k a0 a1 (a0.length : Int) 0
def slices_IndexFunc64_c40.sig (k : Nat) : Sig E.toTys := ⟨[.slice (.st 1), .ext 40 (.ptr (.st 3))], [(false, .int .i64)], none, fun x => f k x.1 x.2.1⟩
noncomputable def slices_IndexFunc64_c40.body : Code := Tryz.f64.body.getD .skip
def slices_IndexFunc64_c40.calls (k : Nat) : List (Nat × Sig E.toTys) := [(40, code_Code_ask_1.sig k)]
def slices_IndexFunc64_c40.cuts : List (Cut E (RT E.toTys [(false, .int .i64)])) := [⟨true, 2, ⟨cat [.one (.val (.slice (.st 1))), .one (.val (.ext 40 (.ptr (.st 3))))] (cat (ds 5) (cat [.one (.val (.int .i64)), .one (.val (.int .i64))] (ds 10))), [], false⟩, fun k x => slices_IndexFunc64_c40.l2 k x.1.1 x.1.2.1 x.1.2.2.1 x.1.2.2.2.1⟩]
theorem slices_IndexFunc64_c40.ok (k : Nat) : Okf (XR E) Tryz.prog 64 (slices_IndexFunc64_c40.sig k) := ⟨fn_ok (C := fun k => tab.ctx fun f => lk f (slices_IndexFunc64_c40.calls k)) (fun k => tie _) k (fun j hj => calls_ok (kc (code_Code_ask_1.ok j) (kn))) 400 Tryz.func64 (body := slices_IndexFunc64_c40.body) (res := [.tmp 4]) rfl (by kernel_rfl) slices_IndexFunc64_c40.cuts (kc ⟨by kernel_rfl, rfl, fun _ => rfl, fun _ _ => by kernel_rfl⟩ (kn)) (fun x => by kernel_rfl), _, Tryz.func64, by kernel_rfl, by kernel_rfl⟩
/-! ### slices.ContainsFunc: function 39 -/
def slices_ContainsFunc39_c40.f (k : Nat) (a0 : List S47) (a1 : Option S53) : Option Bool := (slices_IndexFunc64_c40.f k a0 a1).bind fun r0 => some (decide (r0 ≥ 0))
def slices_ContainsFunc39_c40.sig (k : Nat) : Sig E.toTys := ⟨[.slice (.st 1), .ext 40 (.ptr (.st 3))], [(false, .bool)], none, fun x => f k x.1 x.2.1⟩
noncomputable def slices_ContainsFunc39_c40.body : Code := Tryz.f39.body.getD .skip
def slices_ContainsFunc39_c40.calls (k : Nat) : List (Nat × Sig E.toTys) := [(64, slices_IndexFunc64_c40.sig k)]
def slices_ContainsFunc39_c40.cuts : List (Cut E (RT E.toTys [(false, .bool)])) := []
theorem slices_ContainsFunc39_c40.ok (k : Nat) : Okf (XR E) Tryz.prog 39 (slices_ContainsFunc39_c40.sig k) := ⟨fn_ok (C := fun k => tab.ctx fun f => lk f (slices_ContainsFunc39_c40.calls k)) (fun k => tie _) k (fun j hj => calls_ok (kc (slices_IndexFunc64_c40.ok j) (kn))) 400 Tryz.func39 (body := slices_ContainsFunc39_c40.body) (res := [.tmp 4]) rfl (by kernel_rfl) slices_ContainsFunc39_c40.cuts (kn) (fun x => by kernel_rfl), _, Tryz.func39, by kernel_rfl, by kernel_rfl⟩
end Go.Proofs.YtbapldgapbmdkaaGreat.B
namespace Go.Proofs.YtbapldgapbmdkaaGreat.B
open Go.Proofs.YtbapldgapbmdkaaGreat.V.B Go.RowKit
set_option linter.unusedVariables false
/-! ### (*steeple/code.Code).ask: function 18 -/
def code_Code_ask.j9 : Nat → Int → Option Int
  | 0, _ => none
  | k + 1, x0 => some x0
def code_Code_ask.f (k : Nat) (a0 : Option S53) (a1 : List S47) (a2 : Int) : Option Int := (match a0 with | none => code_Code_ask.j9 k 1 | some _ => if (a1.length : Int) = a2 then (if (a1.length : Int) > 0 then ((slices_ContainsFunc39_c40.f k a1 a0).bind fun r0 => if r0 = true then code_Code_ask.j9 k 5 else code_Code_ask.j9 k 0) else (slices_ContainsFunc39_c40.f k a1 a0).bind fun r1 => if r1 = true then code_Code_ask.j9 k 5 else code_Code_ask.j9 k 0) else code_Code_ask.j9 k 6)
def code_Code_ask.sig (k : Nat) : Sig E.toTys := ⟨[.ptr (.st 3), .slice (.st 1), .int .i64], [(false, .int .i64)], none, fun x => f k x.1 x.2.1 x.2.2.1⟩
noncomputable def code_Code_ask.body : Code := Tryz.f18.body.getD .skip
def code_Code_ask.calls (k : Nat) : List (Nat × Sig E.toTys) := [(39, slices_ContainsFunc39_c40.sig k)]
def code_Code_ask.cuts : List (Cut E (RT E.toTys [(false, .int .i64)])) := [⟨false, 9, ⟨cat (ds 7) (cat [.one (.val (.int .i64))] (ds 16)), [], false⟩, fun k x => code_Code_ask.j9 k x.1.1⟩]
theorem code_Code_ask.ok (k : Nat) : Okf (XR E) Tryz.prog 18 (code_Code_ask.sig k) := ⟨fn_ok (C := fun k => tab.ctx fun f => lk f (code_Code_ask.calls k)) (fun k => tie _) k (fun j hj => calls_ok (kc (slices_ContainsFunc39_c40.ok j) (kn))) 400 Tryz.func18 (body := code_Code_ask.body) (res := [.tmp 6]) rfl (by kernel_rfl) code_Code_ask.cuts (kc ⟨by kernel_rfl, rfl, fun _ => rfl, fun _ _ => by kernel_rfl⟩ (kn)) (fun x => by kernel_rfl), _, Tryz.func18, by kernel_rfl, by kernel_rfl⟩
/-! ### (*steeple/linpoly.Space).Dim: function 42 -/
def linpoly_Space_Dim.f (k : Nat) (a0 : Option S84) : Option Int := (match a0 with | none => some 0 | some _ => (match a0 with | none => none | some r0 => some (r0.f1.length : Int)))
def linpoly_Space_Dim.sig (k : Nat) : Sig E.toTys := ⟨[.ptr (.st 2)], [(false, .int .i64)], none, fun x => f k x.1⟩
noncomputable def linpoly_Space_Dim.body : Code := Tryz.f42.body.getD .skip
def linpoly_Space_Dim.calls (k : Nat) : List (Nat × Sig E.toTys) := []
def linpoly_Space_Dim.cuts : List (Cut E (RT E.toTys [(false, .int .i64)])) := []
theorem linpoly_Space_Dim.ok (k : Nat) : Okf (XR E) Tryz.prog 42 (linpoly_Space_Dim.sig k) := ⟨fn_ok (C := fun k => tab.ctx fun f => lk f (linpoly_Space_Dim.calls k)) (fun k => tie _) k (fun j hj => calls_ok (kn)) 400 Tryz.func42 (body := linpoly_Space_Dim.body) (res := [.tmp 2]) rfl (by kernel_rfl) linpoly_Space_Dim.cuts (kn) (fun x => by kernel_rfl), _, Tryz.func42, by kernel_rfl, by kernel_rfl⟩
/-! ### (*steeple/code.Code).Long: function 19 -/
def code_Code_Long.f (k : Nat) (a0 : Option S53) : Option Int := (match a0 with | none => some 0 | some _ => (match a0 with | none => none | some r0 => (linpoly_Space_Dim.f k r0.f0).bind fun r1 => if 0 ≤ r1 then some (shl .i64 1 r1) else none))
def code_Code_Long.sig (k : Nat) : Sig E.toTys := ⟨[.ptr (.st 3)], [(false, .int .i64)], none, fun x => f k x.1⟩
noncomputable def code_Code_Long.body : Code := Tryz.f19.body.getD .skip
def code_Code_Long.calls (k : Nat) : List (Nat × Sig E.toTys) := [(42, linpoly_Space_Dim.sig k)]
def code_Code_Long.cuts : List (Cut E (RT E.toTys [(false, .int .i64)])) := []
theorem code_Code_Long.ok (k : Nat) : Okf (XR E) Tryz.prog 19 (code_Code_Long.sig k) := ⟨fn_ok (C := fun k => tab.ctx fun f => lk f (code_Code_Long.calls k)) (fun k => tie _) k (fun j hj => calls_ok (kc (linpoly_Space_Dim.ok j) (kn))) 400 Tryz.func19 (body := code_Code_Long.body) (res := [.tmp 2]) rfl (by kernel_rfl) code_Code_Long.cuts (kn) (fun x => by kernel_rfl), _, Tryz.func19, by kernel_rfl, by kernel_rfl⟩
/-! ### steeple/antt.size: function 65 -/
def antt_size.l2 : Nat → List S47 → Int → Int → Option Int
  | 0, _, _, _ => none
  | k + 1, x0, x1, x2 => if x2 < x1 then (if 0 ≤ x2 then (if (x0.length : Int) = shl .i64 1 x2 then some x2 else antt_size.l2 k x0 x1 (wrap64 (x2 + 1))) else none) else some (-1)
def antt_size.f (k : Nat) (a0 : Option S84) (a1 : List S47) : Option Int := (linpoly_Space_Dim.f k a0).bind fun r0 => antt_size.l2 k a1 (wrap64 (r0 + 1)) 0
def antt_size.sig (k : Nat) : Sig E.toTys := ⟨[.ptr (.st 2), .slice (.st 1)], [(false, .int .i64)], none, fun x => f k x.1 x.2.1⟩
noncomputable def antt_size.body : Code := Tryz.f65.body.getD .skip
def antt_size.calls (k : Nat) : List (Nat × Sig E.toTys) := [(42, linpoly_Space_Dim.sig k)]
def antt_size.cuts : List (Cut E (RT E.toTys [(false, .int .i64)])) := [⟨true, 2, ⟨cat (ds 1) (cat [.one (.val (.slice (.st 1)))] (cat (ds 6) (cat [.one (.val (.int .i64)), .one (.val (.int .i64))] (ds 9)))), [], false⟩, fun k x => antt_size.l2 k x.1.1 x.1.2.1 x.1.2.2.1⟩]
theorem antt_size.ok (k : Nat) : Okf (XR E) Tryz.prog 65 (antt_size.sig k) := ⟨fn_ok (C := fun k => tab.ctx fun f => lk f (antt_size.calls k)) (fun k => tie _) k (fun j hj => calls_ok (kc (linpoly_Space_Dim.ok j) (kn))) 400 Tryz.func65 (body := antt_size.body) (res := [.tmp 4]) rfl (by kernel_rfl) antt_size.cuts (kc ⟨by kernel_rfl, rfl, fun _ => rfl, fun _ _ => by kernel_rfl⟩ (kn)) (fun x => by kernel_rfl), _, Tryz.func65, by kernel_rfl, by kernel_rfl⟩
/-! ### steeple/antt.ask$1: function 66 -/
def antt_ask_1.f (k : Nat) (a0 : S47) (a1 : Option (Option S84)) : Option Bool := (match a1 with | none => none | some r0 => (linpoly_Space_Level.f k r0).bind fun r1 => (octet_Of.f k r1 a0).bind fun r2 => some (!r2))
def antt_ask_1.sig (k : Nat) : Sig E.toTys := ⟨[.st 1, .ptr (.ptr (.st 2))], [(false, .bool)], none, fun x => f k x.1 x.2.1⟩
noncomputable def antt_ask_1.body : Code := Tryz.f66.body.getD .skip
def antt_ask_1.calls (k : Nat) : List (Nat × Sig E.toTys) := [(46, linpoly_Space_Level.sig k), (41, octet_Of.sig k)]
def antt_ask_1.cuts : List (Cut E (RT E.toTys [(false, .bool)])) := []
theorem antt_ask_1.ok (k : Nat) : Okf (XR E) Tryz.prog 66 (antt_ask_1.sig k) := ⟨fn_ok (C := fun k => tab.ctx fun f => lk f (antt_ask_1.calls k)) (fun k => tie _) k (fun j hj => calls_ok (kc (linpoly_Space_Level.ok j) (kc (octet_Of.ok j) (kn)))) 400 Tryz.func66 (body := antt_ask_1.body) (res := [.tmp 3]) rfl (by kernel_rfl) antt_ask_1.cuts (kn) (fun x => by kernel_rfl), _, Tryz.func66, by kernel_rfl, by kernel_rfl⟩
/-! ### slices.IndexFunc: function 64 -/
def slices_IndexFunc64_c66.l2 : Nat → List S47 → Option S84 → Int → Int → Option Int
  | 0, _, _, _, _ => none
  | k + 1, x0, x1, x2, x3 => if x3 < x2 then (if 0 ≤ x3 then (if x3 < (x0.length : Int) then ((antt_ask_1.f k (rd47 x0 x3) (some x1)).bind fun r0 => if r0 = true then some x3 else slices_IndexFunc64_c66.l2 k x0 x1 x2 (wrap64 (x3 + 1))) else none) else none) else some (-1)
def slices_IndexFunc64_c66.f (k : Nat) (a0 : List S47) (a1 : Option S84) : Option Int := slices_IndexFunc64_c66.l2 k a0 a1 (a0.length : Int) 0
def slices_IndexFunc64_c66.sig (k : Nat) : Sig E.toTys := ⟨[.slice (.st 1), .ext 66 (.ptr (.st 2))], [(false, .int .i64)], none, fun x => f k x.1 x.2.1⟩
noncomputable def slices_IndexFunc64_c66.body : Code := Tryz.f64.body.getD .skip
def slices_IndexFunc64_c66.calls (k : Nat) : List (Nat × Sig E.toTys) := [(66, antt_ask_1.sig k)]
def slices_IndexFunc64_c66.cuts : List (Cut E (RT E.toTys [(false, .int .i64)])) := [⟨true, 2, ⟨cat [.one (.val (.slice (.st 1))), .one (.val (.ext 66 (.ptr (.st 2))))] (cat (ds 5) (cat [.one (.val (.int .i64)), .one (.val (.int .i64))] (ds 10))), [], false⟩, fun k x => slices_IndexFunc64_c66.l2 k x.1.1 x.1.2.1 x.1.2.2.1 x.1.2.2.2.1⟩]
theorem slices_IndexFunc64_c66.ok (k : Nat) : Okf (XR E) Tryz.prog 64 (slices_IndexFunc64_c66.sig k) := ⟨fn_ok (C := fun k => tab.ctx fun f => lk f (slices_IndexFunc64_c66.calls k)) (fun k => tie _) k (fun j hj => calls_ok (kc (antt_ask_1.ok j) (kn))) 400 Tryz.func64 (body := slices_IndexFunc64_c66.body) (res := [.tmp 4]) rfl (by kernel_rfl) slices_IndexFunc64_c66.cuts (kc ⟨by kernel_rfl, rfl, fun _ => rfl, fun _ _ => by kernel_rfl⟩ (kn)) (fun x => by kernel_rfl), _, Tryz.func64, by kernel_rfl, by kernel_rfl⟩
/-! ### slices.ContainsFunc: function 39 -/
def slices_ContainsFunc39_c66.f (k : Nat) (a0 : List S47) (a1 : Option S84) : Option Bool := (slices_IndexFunc64_c66.f k a0 a1).bind fun r0 => some (decide (r0 ≥ 0))
def slices_ContainsFunc39_c66.sig (k : Nat) : Sig E.toTys := ⟨[.slice (.st 1), .ext 66 (.ptr (.st 2))], [(false, .bool)], none, fun x => f k x.1 x.2.1⟩
noncomputable def slices_ContainsFunc39_c66.body : Code := Tryz.f39.body.getD .skip
def slices_ContainsFunc39_c66.calls (k : Nat) : List (Nat × Sig E.toTys) := [(64, slices_IndexFunc64_c66.sig k)]
def slices_ContainsFunc39_c66.cuts : List (Cut E (RT E.toTys [(false, .bool)])) := []
theorem slices_ContainsFunc39_c66.ok (k : Nat) : Okf (XR E) Tryz.prog 39 (slices_ContainsFunc39_c66.sig k) := ⟨fn_ok (C := fun k => tab.ctx fun f => lk f (slices_ContainsFunc39_c66.calls k)) (fun k => tie _) k (fun j hj => calls_ok (kc (slices_IndexFunc64_c66.ok j) (kn))) 400 Tryz.func39 (body := slices_ContainsFunc39_c66.body) (res := [.tmp 4]) rfl (by kernel_rfl) slices_ContainsFunc39_c66.cuts (kn) (fun x => by kernel_rfl), _, Tryz.func39, by kernel_rfl, by kernel_rfl⟩
/-! ### steeple/antt.ask: function 43 -/
def antt_ask.f (k : Nat) (a0 : Option S84) (a1 : List S47) (a2 : S47) : Option (Int × Int) := (match a0 with | none => some (0, 1) | some _ => (antt_size.f k a0 a1).bind fun r0 => if r0 < 0 then some (0, 6) else (linpoly_Space_Level.f k a0).bind fun r1 => (octet_Of.f k r1 a2).bind fun r2 => if (!r2) = true then some (0, 5) else (slices_ContainsFunc39_c66.f k a1 a0).bind fun r3 => if r3 = true then some (0, 5) else some (r0, 0))
def antt_ask.sig (k : Nat) : Sig E.toTys := ⟨[.ptr (.st 2), .slice (.st 1), .st 1], [(false, .int .i64), (false, .int .i64)], none, fun x => f k x.1 x.2.1 x.2.2.1⟩
noncomputable def antt_ask.body : Code := Tryz.f43.body.getD .skip
def antt_ask.calls (k : Nat) : List (Nat × Sig E.toTys) := [(65, antt_size.sig k), (46, linpoly_Space_Level.sig k), (41, octet_Of.sig k), (39, slices_ContainsFunc39_c66.sig k)]
def antt_ask.cuts : List (Cut E (RT E.toTys [(false, .int .i64), (false, .int .i64)])) := []
theorem antt_ask.ok (k : Nat) : Okf (XR E) Tryz.prog 43 (antt_ask.sig k) := ⟨fn_ok (C := fun k => tab.ctx fun f => lk f (antt_ask.calls k)) (fun k => tie _) k (fun j hj => calls_ok (kc (antt_size.ok j) (kc (linpoly_Space_Level.ok j) (kc (octet_Of.ok j) (kc (slices_ContainsFunc39_c66.ok j) (kn)))))) 400 Tryz.func43 (body := antt_ask.body) (res := [.tmp 6, .tmp 7]) rfl (by kernel_rfl) antt_ask.cuts (kn) (fun x => by kernel_rfl), _, Tryz.func43, by kernel_rfl, by kernel_rfl⟩
/-! ### steeple/span.Point: function 55 -/
mutual
def span_Point.l3 : Nat → List S47 → Int → Int → Int → Int → Int → Int → Int → Option S47
  | 0, _, _, _, _, _, _, _, _ => none
  | k + 1, x0, x1, x2, x3, x4, x5, x6, x7 => if x3 < x2 then (if x1 > 0 then (if 0 ≤ x3 then (if bits .and .i64 (shr .i64 x1 x3) 1 = 1 then (if 0 ≤ x3 then (if x3 < (x0.length : Int) then ((tower_Add.f k (⟨x6, x7⟩ : S47) (rd47 x0 x3)).bind fun r0 => span_Point.j7 k x0 x1 x2 x3 x4 x5 r0.f0 r0.f1) else none) else none) else span_Point.j7 k x0 x1 x2 x3 x4 x5 x6 x7) else none) else span_Point.j7 k x0 x1 x2 x3 x4 x5 x6 x7) else some (⟨x6, x7⟩ : S47)
def span_Point.j7 : Nat → List S47 → Int → Int → Int → Int → Int → Int → Int → Option S47
  | 0, _, _, _, _, _, _, _, _ => none
  | k + 1, x0, x1, x2, x3, x4, x5, x6, x7 => span_Point.l3 k x0 x1 x2 (wrap64 (x3 + 1)) x4 x5 x6 x7
end
def span_Point.f (k : Nat) (a0 : List S47) (a1 : Int) : Option S47 := span_Point.l3 k a0 a1 (if 62 < (a0.length : Int) then (62 : Int) else (a0.length : Int)) 0 0 0 0 0
def span_Point.sig (k : Nat) : Sig E.toTys := ⟨[.slice (.st 1), .int .i64], [(false, .st 1)], none, fun x => f k x.1 x.2.1⟩
noncomputable def span_Point.body : Code := Tryz.f55.body.getD .skip
def span_Point.calls (k : Nat) : List (Nat × Sig E.toTys) := [(30, tower_Add.sig k)]
def span_Point.cuts : List (Cut E (RT E.toTys [(false, .st 1)])) := [⟨true, 3, ⟨cat [.one (.val (.slice (.st 1))), .one (.val (.int .i64))] (cat (ds 2) (cat [.one (.ptr 0 0), .one (.ptr 1 0)] (cat (ds 3) (cat [.one (.val (.int .i64)), .one (.val (.int .i64))] (ds 19))))), [.var [.val (.int .u64), .val (.int .u64)], .var [.val (.int .u64), .val (.int .u64)]], false⟩, fun k x => span_Point.l3 k x.1.1 x.1.2.1 x.1.2.2.1 x.1.2.2.2.1 x.2.1.1 x.2.1.2.1 x.2.2.1.1 x.2.2.1.2.1⟩,
  ⟨false, 7, ⟨cat [.one (.val (.slice (.st 1))), .one (.val (.int .i64))] (cat (ds 2) (cat [.one (.ptr 0 0), .one (.ptr 1 0)] (cat (ds 3) (cat [.one (.val (.int .i64)), .one (.val (.int .i64))] (ds 19))))), [.var [.val (.int .u64), .val (.int .u64)], .var [.val (.int .u64), .val (.int .u64)]], false⟩, fun k x => span_Point.j7 k x.1.1 x.1.2.1 x.1.2.2.1 x.1.2.2.2.1 x.2.1.1 x.2.1.2.1 x.2.2.1.1 x.2.2.1.2.1⟩]
theorem span_Point.ok (k : Nat) : Okf (XR E) Tryz.prog 55 (span_Point.sig k) := ⟨fn_ok (C := fun k => tab.ctx fun f => lk f (span_Point.calls k)) (fun k => tie _) k (fun j hj => calls_ok (kc (tower_Add.ok j) (kn))) 400 Tryz.func55 (body := span_Point.body) (res := [.cell 4 47]) rfl (by kernel_rfl) span_Point.cuts (kc ⟨by kernel_rfl, rfl, fun _ => rfl, fun _ _ => by kernel_rfl⟩ (kc ⟨by kernel_rfl, rfl, fun _ => rfl, fun _ _ => by kernel_rfl⟩ (kn))) (fun x => by kernel_rfl), _, Tryz.func55, by kernel_rfl, by kernel_rfl⟩
/-! ### (*steeple/linpoly.Space).Point: function 29 -/
def linpoly_Space_Point.j2 : Nat → Int → Int → Option S47
  | 0, _, _ => none
  | k + 1, _, _ => some (⟨0, 0⟩ : S47)
def linpoly_Space_Point.f (k : Nat) (a0 : Option S84) (a1 : Int) : Option S47 := (match a0 with | none => linpoly_Space_Point.j2 k 0 0 | some _ => if a1 < 0 then linpoly_Space_Point.j2 k 0 0 else (match a0 with | none => none | some r0 => if 0 ≤ (r0.f1.length : Int) then (if a1 ≥ shl .i64 1 (r0.f1.length : Int) then linpoly_Space_Point.j2 k 0 0 else (match a0 with | none => none | some r1 => (span_Point.f k r1.f1 a1).bind fun r2 => some r2)) else none))
def linpoly_Space_Point.sig (k : Nat) : Sig E.toTys := ⟨[.ptr (.st 2), .int .i64], [(false, .st 1)], none, fun x => f k x.1 x.2.1⟩
noncomputable def linpoly_Space_Point.body : Code := Tryz.f29.body.getD .skip
def linpoly_Space_Point.calls (k : Nat) : List (Nat × Sig E.toTys) := [(55, span_Point.sig k)]
def linpoly_Space_Point.cuts : List (Cut E (RT E.toTys [(false, .st 1)])) := [⟨false, 2, ⟨cat (ds 4) (cat [.one (.ptr 0 0)] (ds 23)), [.var [.val (.int .u64), .val (.int .u64)]], false⟩, fun k x => linpoly_Space_Point.j2 k x.2.1.1 x.2.1.2.1⟩]
theorem linpoly_Space_Point.ok (k : Nat) : Okf (XR E) Tryz.prog 29 (linpoly_Space_Point.sig k) := ⟨fn_ok (C := fun k => tab.ctx fun f => lk f (linpoly_Space_Point.calls k)) (fun k => tie _) k (fun j hj => calls_ok (kc (span_Point.ok j) (kn))) 400 Tryz.func29 (body := linpoly_Space_Point.body) (res := [.cell 4 47]) rfl (by kernel_rfl) linpoly_Space_Point.cuts (kc ⟨by kernel_rfl, rfl, fun _ => rfl, fun _ _ => by kernel_rfl⟩ (kn)) (fun x => by kernel_rfl), _, Tryz.func29, by kernel_rfl, by kernel_rfl⟩
/-! ### (*steeple/linpoly.Space).Norm: function 67 -/
def linpoly_Space_Norm.j2 : Nat → Int → Int → Option S47
  | 0, _, _ => none
  | k + 1, _, _ => some (⟨0, 0⟩ : S47)
def linpoly_Space_Norm.f (k : Nat) (a0 : Option S84) (a1 : Int) (a2 : S47) : Option S47 := (match a0 with | none => linpoly_Space_Norm.j2 k 0 0 | some _ => if a1 < 0 then linpoly_Space_Norm.j2 k 0 0 else (match a0 with | none => none | some r0 => if a1 ≥ (r0.f1.length : Int) then linpoly_Space_Norm.j2 k 0 0 else (match a0 with | none => none | some r1 => (octet_Of.f k r1.f0 a2).bind fun r2 => if (!r2) = true then linpoly_Space_Norm.j2 k 0 0 else (match a0 with | none => none | some r3 => (linpoly_Space_value.f k a0 a1 a2).bind fun r4 => (match a0 with | none => none | some r5 => if 0 ≤ a1 then (if a1 < (r5.f3.length : Int) then ((tower_Mul.f k r3.f0 r4 (rd47 r5.f3 a1)).bind fun r6 => some r6) else none) else none)))))
def linpoly_Space_Norm.sig (k : Nat) : Sig E.toTys := ⟨[.ptr (.st 2), .int .i64, .st 1], [(false, .st 1)], none, fun x => f k x.1 x.2.1 x.2.2.1⟩
noncomputable def linpoly_Space_Norm.body : Code := Tryz.f67.body.getD .skip
def linpoly_Space_Norm.calls (k : Nat) : List (Nat × Sig E.toTys) := [(41, octet_Of.sig k), (83, linpoly_Space_value.sig k), (33, tower_Mul.sig k)]
def linpoly_Space_Norm.cuts : List (Cut E (RT E.toTys [(false, .st 1)])) := [⟨false, 2, ⟨cat (ds 6) (cat [.one (.ptr 0 0)] (ds 41)), [.var [.val (.int .u64), .val (.int .u64)]], false⟩, fun k x => linpoly_Space_Norm.j2 k x.2.1.1 x.2.1.2.1⟩]
theorem linpoly_Space_Norm.ok (k : Nat) : Okf (XR E) Tryz.prog 67 (linpoly_Space_Norm.sig k) := ⟨fn_ok (C := fun k => tab.ctx fun f => lk f (linpoly_Space_Norm.calls k)) (fun k => tie _) k (fun j hj => calls_ok (kc (octet_Of.ok j) (kc (linpoly_Space_value.ok j) (kc (tower_Mul.ok j) (kn))))) 400 Tryz.func67 (body := linpoly_Space_Norm.body) (res := [.cell 6 47]) rfl (by kernel_rfl) linpoly_Space_Norm.cuts (kc ⟨by kernel_rfl, rfl, fun _ => rfl, fun _ _ => by kernel_rfl⟩ (kn)) (fun x => by kernel_rfl), _, Tryz.func67, by kernel_rfl, by kernel_rfl⟩
/-! ### steeple/antt.twist: function 45 -/
def antt_twist.f (k : Nat) (a0 : Option S84) (a1 : Int) (a2 : Int) (a3 : S47) : Option S47 := if 0 ≤ wrap64 (a1 + 1) then ((linpoly_Space_Point.f k a0 (shl .i64 a2 (wrap64 (a1 + 1)))).bind fun r0 => (tower_Add.f k a3 r0).bind fun r1 => (linpoly_Space_Norm.f k a0 a1 r1).bind fun r2 => some r2) else none
def antt_twist.sig (k : Nat) : Sig E.toTys := ⟨[.ptr (.st 2), .int .i64, .int .i64, .st 1], [(false, .st 1)], none, fun x => f k x.1 x.2.1 x.2.2.1 x.2.2.2.1⟩
noncomputable def antt_twist.body : Code := Tryz.f45.body.getD .skip
def antt_twist.calls (k : Nat) : List (Nat × Sig E.toTys) := [(29, linpoly_Space_Point.sig k), (30, tower_Add.sig k), (67, linpoly_Space_Norm.sig k)]
def antt_twist.cuts : List (Cut E (RT E.toTys [(false, .st 1)])) := []
theorem antt_twist.ok (k : Nat) : Okf (XR E) Tryz.prog 45 (antt_twist.sig k) := ⟨fn_ok (C := fun k => tab.ctx fun f => lk f (antt_twist.calls k)) (fun k => tie _) k (fun j hj => calls_ok (kc (linpoly_Space_Point.ok j) (kc (tower_Add.ok j) (kc (linpoly_Space_Norm.ok j) (kn))))) 400 Tryz.func45 (body := antt_twist.body) (res := [.cell 8 47]) rfl (by kernel_rfl) antt_twist.cuts (kn) (fun x => by kernel_rfl), _, Tryz.func45, by kernel_rfl, by kernel_rfl⟩
/-! ### steeple/antt.Forward: function 36 -/
mutual
def antt_Forward.l6 : Nat → Option S84 → Int → Int → Int → List S47 → Option ((List S47) × Int)
  | 0, _, _, _, _, _ => none
  | k + 1, x0, x1, x2, x3, x4 => if x1 ≥ 0 then (if 0 ≤ x1 then (if wrap64 (2 * (shl .i64 1 x1)) = 0 then none else antt_Forward.l10 k x0 x1 (shl .i64 1 x1) (wrap64 (Int.tdiv (x4.length : Int) (wrap64 (2 * (shl .i64 1 x1))))) 0 x2 x3 x4) else none) else some (x4, 0)
def antt_Forward.l10 : Nat → Option S84 → Int → Int → Int → Int → Int → Int → List S47 → Option ((List S47) × Int)
  | 0, _, _, _, _, _, _, _, _ => none
  | k + 1, x0, x1, x2, x3, x4, x5, x6, x7 => if x4 < x3 then ((antt_twist.f k x0 x1 x4 (⟨x5, x6⟩ : S47)).bind fun r2 => antt_Forward.l14 k x0 x1 x2 x4 x3 x4 x2 0 x5 x6 x7 r2.f0 r2.f1) else antt_Forward.l6 k x0 (wrap64 (x1 - 1)) x5 x6 x7
def antt_Forward.l14 : Nat → Option S84 → Int → Int → Int → Int → Int → Int → Int → Int → Int → List S47 → Int → Int → Option ((List S47) × Int)
  | 0, _, _, _, _, _, _, _, _, _, _, _, _, _ => none
  | k + 1, x0, x1, x2, x3, x4, x5, x6, x7, x8, x9, x10, x11, x12 => if x7 < x6 then (if 0 ≤ wrap64 ((wrap64 ((wrap64 (2 * x2)) * x3)) + x7) then (if wrap64 ((wrap64 ((wrap64 (2 * x2)) * x3)) + x7) < (x10.length : Int) then ((linpoly_Space_Level.f k x0).bind fun r3 => if 0 ≤ wrap64 ((wrap64 ((wrap64 ((wrap64 (2 * x2)) * x3)) + x2)) + x7) then (if wrap64 ((wrap64 ((wrap64 ((wrap64 (2 * x2)) * x3)) + x2)) + x7) < (x10.length : Int) then ((tower_Mul.f k r3 (⟨x11, x12⟩ : S47) (rd47 x10 (wrap64 ((wrap64 ((wrap64 ((wrap64 (2 * x2)) * x3)) + x2)) + x7)))).bind fun r4 => (tower_Add.f k (rd47 x10 (wrap64 ((wrap64 ((wrap64 (2 * x2)) * x3)) + x7))) r4).bind fun r5 => if 0 ≤ wrap64 ((wrap64 ((wrap64 (2 * x2)) * x3)) + x7) then (if wrap64 ((wrap64 ((wrap64 (2 * x2)) * x3)) + x7) < (x10.length : Int) then (if 0 ≤ wrap64 ((wrap64 ((wrap64 (2 * x2)) * x3)) + x7) then (if wrap64 ((wrap64 ((wrap64 (2 * x2)) * x3)) + x7) < ((x10.set (Int.toNat (wrap64 ((wrap64 ((wrap64 (2 * x2)) * x3)) + x7))) r5).length : Int) then (if 0 ≤ wrap64 ((wrap64 ((wrap64 ((wrap64 (2 * x2)) * x3)) + x2)) + x7) then (if wrap64 ((wrap64 ((wrap64 ((wrap64 (2 * x2)) * x3)) + x2)) + x7) < ((x10.set (Int.toNat (wrap64 ((wrap64 ((wrap64 (2 * x2)) * x3)) + x7))) r5).length : Int) then ((tower_Add.f k (rd47 (x10.set (Int.toNat (wrap64 ((wrap64 ((wrap64 (2 * x2)) * x3)) + x7))) r5) (wrap64 ((wrap64 ((wrap64 (2 * x2)) * x3)) + x7))) (rd47 (x10.set (Int.toNat (wrap64 ((wrap64 ((wrap64 (2 * x2)) * x3)) + x7))) r5) (wrap64 ((wrap64 ((wrap64 ((wrap64 (2 * x2)) * x3)) + x2)) + x7)))).bind fun r6 => if 0 ≤ wrap64 ((wrap64 ((wrap64 ((wrap64 (2 * x2)) * x3)) + x2)) + x7) then (if wrap64 ((wrap64 ((wrap64 ((wrap64 (2 * x2)) * x3)) + x2)) + x7) < ((x10.set (Int.toNat (wrap64 ((wrap64 ((wrap64 (2 * x2)) * x3)) + x7))) r5).length : Int) then antt_Forward.l14 k x0 x1 x2 x3 x4 x5 x6 (wrap64 (x7 + 1)) x8 x9 ((x10.set (Int.toNat (wrap64 ((wrap64 ((wrap64 (2 * x2)) * x3)) + x7))) r5).set (Int.toNat (wrap64 ((wrap64 ((wrap64 ((wrap64 (2 * x2)) * x3)) + x2)) + x7))) r6) x11 x12 else none) else none) else none) else none) else none) else none) else none) else none) else none) else none) else none) else none) else antt_Forward.l10 k x0 x1 x2 x4 (wrap64 (x5 + 1)) x8 x9 x10
end
def antt_Forward.f (k : Nat) (a0 : Option S84) (a1 : List S47) (a2 : S47) : Option ((List S47) × Int) := (antt_ask.f k a0 a1 a2).bind fun r0 => if r0.2 = 0 then ((slices_Clone44.f k a1).bind fun r1 => antt_Forward.l6 k a0 (wrap64 (r0.1 - 1)) a2.f0 a2.f1 r1) else some ([], r0.2)
def antt_Forward.sig (k : Nat) : Sig E.toTys := ⟨[.ptr (.st 2), .slice (.st 1), .st 1], [(true, .slice (.st 1)), (false, .int .i64)], none, fun x => f k x.1 x.2.1 x.2.2.1⟩
noncomputable def antt_Forward.body : Code := Tryz.f36.body.getD .skip
def antt_Forward.calls (k : Nat) : List (Nat × Sig E.toTys) := [(43, antt_ask.sig k), (44, slices_Clone44.sig k), (45, antt_twist.sig k), (46, linpoly_Space_Level.sig k), (33, tower_Mul.sig k), (30, tower_Add.sig k)]
def antt_Forward.cuts : List (Cut E (RT E.toTys [(true, .slice (.st 1)), (false, .int .i64)])) := [⟨true, 6, ⟨cat [.one (.val (.ptr (.st 2)))] (cat (ds 4) (cat [.one (.ptr 0 0)] (cat (ds 4) (cat [.one (.ref 1), .one (.val (.int .i64))] (ds 88))))), [.var [.val (.int .u64), .val (.int .u64)], .arr (.st 1)], false⟩, fun k x => antt_Forward.l6 k x.1.1 x.1.2.1 x.2.1.1 x.2.1.2.1 x.2.2.1⟩,
  ⟨true, 10, ⟨cat [.one (.val (.ptr (.st 2)))] (cat (ds 4) (cat [.one (.ptr 0 0)] (cat (ds 4) (cat [.one (.ref 1), .one (.val (.int .i64)), .one (.val (.int .i64))] (cat (ds 29) (cat [.one (.val (.int .i64)), .one (.val (.int .i64))] (ds 56))))))), [.var [.val (.int .u64), .val (.int .u64)], .arr (.st 1)], false⟩, fun k x => antt_Forward.l10 k x.1.1 x.1.2.1 x.1.2.2.1 x.1.2.2.2.1 x.1.2.2.2.2.1 x.2.1.1 x.2.1.2.1 x.2.2.1⟩,
  ⟨true, 14, ⟨cat [.one (.val (.ptr (.st 2)))] (cat (ds 4) (cat [.one (.ptr 0 0)] (cat (ds 4) (cat [.one (.ref 1), .one (.val (.int .i64)), .one (.val (.int .i64)), .one (.val (.int .i64)), .one (.ptr 2 0)] (cat (ds 27) (cat [.one (.val (.int .i64)), .one (.val (.int .i64))] (cat (ds 7) (cat [.one (.val (.int .i64)), .one (.val (.int .i64))] (ds 47))))))))), [.var [.val (.int .u64), .val (.int .u64)], .arr (.st 1), .var [.val (.int .u64), .val (.int .u64)]], false⟩, fun k x => antt_Forward.l14 k x.1.1 x.1.2.1 x.1.2.2.1 x.1.2.2.2.1 x.1.2.2.2.2.1 x.1.2.2.2.2.2.1 x.1.2.2.2.2.2.2.1 x.1.2.2.2.2.2.2.2.1 x.2.1.1 x.2.1.2.1 x.2.2.1 x.2.2.2.1.1 x.2.2.2.1.2.1⟩]
theorem antt_Forward.ok (k : Nat) : Okf (XR E) Tryz.prog 36 (antt_Forward.sig k) := ⟨fn_ok (C := fun k => tab.ctx fun f => lk f (antt_Forward.calls k)) (fun k => tie _) k (fun j hj => calls_ok (kc (antt_ask.ok j) (kc (slices_Clone44.ok j) (kc (antt_twist.ok j) (kc (linpoly_Space_Level.ok j) (kc (tower_Mul.ok j) (kc (tower_Add.ok j) (kn)))))))) 400 Tryz.func36 (body := antt_Forward.body) (res := [.tmp 6, .tmp 7]) rfl (by kernel_rfl) antt_Forward.cuts (kc ⟨by kernel_rfl, rfl, fun _ => rfl, fun _ _ => by kernel_rfl⟩ (kc ⟨by kernel_rfl, rfl, fun _ => rfl, fun _ _ => by kernel_rfl⟩ (kc ⟨by kernel_rfl, rfl, fun _ => rfl, fun _ _ => by kernel_rfl⟩ (kn)))) (fun x => by kernel_rfl), _, Tryz.func36, by kernel_rfl, by kernel_rfl⟩
/-! ### (*steeple/code.Code).Encode: function 14 -/
def code_Code_Encode.f (k : Nat) (a0 : Option S53) (a1 : List S47) : Option ((List S47) × Int) := (code_Code_Size.f k a0).bind fun r0 => (code_Code_ask.f k a0 a1 r0).bind fun r1 => if r1 = 0 then ((code_Code_Long.f k a0).bind fun r2 => if 0 ≤ r2 then (if r2 ≤ 140737488355328 / ((16 : Nat) : Int) then ((match a0 with | none => none | some r3 => (antt_Forward.f k r3.f0 (a1.take (List.replicate (Int.toNat r2) z47).length ++ (List.replicate (Int.toNat r2) z47).drop a1.length) (⟨0, 0⟩ : S47)).bind fun r4 => some (r4.1, r4.2))) else none) else none) else some ([], r1)
def code_Code_Encode.sig (k : Nat) : Sig E.toTys := ⟨[.ptr (.st 3), .slice (.st 1)], [(true, .slice (.st 1)), (false, .int .i64)], none, fun x => f k x.1 x.2.1⟩
noncomputable def code_Code_Encode.body : Code := Tryz.f14.body.getD .skip
def code_Code_Encode.calls (k : Nat) : List (Nat × Sig E.toTys) := [(10, code_Code_Size.sig k), (18, code_Code_ask.sig k), (19, code_Code_Long.sig k), (36, antt_Forward.sig k)]
def code_Code_Encode.cuts : List (Cut E (RT E.toTys [(true, .slice (.st 1)), (false, .int .i64)])) := []
theorem code_Code_Encode.ok (k : Nat) : Okf (XR E) Tryz.prog 14 (code_Code_Encode.sig k) := ⟨fn_ok (C := fun k => tab.ctx fun f => lk f (code_Code_Encode.calls k)) (fun k => tie _) k (fun j hj => calls_ok (kc (code_Code_Size.ok j) (kc (code_Code_ask.ok j) (kc (code_Code_Long.ok j) (kc (antt_Forward.ok j) (kn)))))) 400 Tryz.func14 (body := code_Code_Encode.body) (res := [.tmp 4, .tmp 5]) rfl (by kernel_rfl) code_Code_Encode.cuts (kn) (fun x => by kernel_rfl), _, Tryz.func14, by kernel_rfl, by kernel_rfl⟩
/-! ### steeple/steeplelaw01.Same: function 11 -/
def steeplelaw01_Same.l4 : Nat → List S47 → List S48 → Int → Option Bool
  | 0, _, _, _ => none
  | k + 1, x0, x1, x2 => if x2 < (x0.length : Int) then (if 0 ≤ x2 then (if x2 < (x0.length : Int) then (if 0 ≤ x2 then (if x2 < (x1.length : Int) then (if (rd47 x0 x2).f0 = (rd48 x1 x2).f0 ∧ (rd47 x0 x2).f1 = (rd48 x1 x2).f1 then steeplelaw01_Same.l4 k x0 x1 (wrap64 (x2 + 1)) else some false) else none) else none) else none) else none) else some true
def steeplelaw01_Same.f (k : Nat) (a0 : List S47) (a1 : List S48) : Option Bool := if (a0.length : Int) = (a1.length : Int) then steeplelaw01_Same.l4 k a0 a1 0 else some false
def steeplelaw01_Same.sig (k : Nat) : Sig E.toTys := ⟨[.slice (.st 1), .slice (.st 4)], [(false, .bool)], none, fun x => f k x.1 x.2.1⟩
noncomputable def steeplelaw01_Same.body : Code := Tryz.f11.body.getD .skip
def steeplelaw01_Same.calls (k : Nat) : List (Nat × Sig E.toTys) := []
def steeplelaw01_Same.cuts : List (Cut E (RT E.toTys [(false, .bool)])) := [⟨true, 4, ⟨cat [.one (.val (.slice (.st 1))), .one (.val (.slice (.st 4)))] (cat (ds 3) (cat [.one (.val (.int .i64))] (ds 20))), [], false⟩, fun k x => steeplelaw01_Same.l4 k x.1.1 x.1.2.1 x.1.2.2.1⟩]
theorem steeplelaw01_Same.ok (k : Nat) : Okf (XR E) Tryz.prog 11 (steeplelaw01_Same.sig k) := ⟨fn_ok (C := fun k => tab.ctx fun f => lk f (steeplelaw01_Same.calls k)) (fun k => tie _) k (fun j hj => calls_ok (kn)) 400 Tryz.func11 (body := steeplelaw01_Same.body) (res := [.tmp 4]) rfl (by kernel_rfl) steeplelaw01_Same.cuts (kc ⟨by kernel_rfl, rfl, fun _ => rfl, fun _ _ => by kernel_rfl⟩ (kn)) (fun x => by kernel_rfl), _, Tryz.func11, by kernel_rfl, by kernel_rfl⟩
/-! ### steeple/steeplelaw08.awake: function 5 -/
def steeplelaw08_awake.f (k : Nat) : Option Bool := (code_New.f k 2 0 1).bind fun r0 => (code_New.f k 2 1 0).bind fun r1 => (code_Code_Encode.f k r0.1 [(⟨0, 5⟩ : S47)]).bind fun r2 => (code_Code_Encode.f k r1.1 [(⟨0, 7⟩ : S47), (⟨0, 5⟩ : S47)]).bind fun r3 => if r0.2 = 0 then (if r1.2 = 0 then (if r2.2 = 0 then (if r3.2 = 0 then ((steeplelaw01_Same.f k r2.1 [(⟨0, 5⟩ : S48), (⟨0, 5⟩ : S48)]).bind fun r4 => if r4 = true then ((steeplelaw01_Same.f k r3.1 [(⟨0, 7⟩ : S48), (⟨0, 2⟩ : S48)]).bind fun r5 => some r5) else some false) else some false) else some false) else some false) else some false
def steeplelaw08_awake.sig (k : Nat) : Sig E.toTys := ⟨[], [(false, .bool)], none, fun x => f k⟩
noncomputable def steeplelaw08_awake.body : Code := Tryz.f5.body.getD .skip
def steeplelaw08_awake.calls (k : Nat) : List (Nat × Sig E.toTys) := [(17, code_New.sig k), (14, code_Code_Encode.sig k), (11, steeplelaw01_Same.sig k)]
def steeplelaw08_awake.cuts : List (Cut E (RT E.toTys [(false, .bool)])) := []
theorem steeplelaw08_awake.ok (k : Nat) : Okf (XR E) Tryz.prog 5 (steeplelaw08_awake.sig k) := ⟨fn_ok (C := fun k => tab.ctx fun f => lk f (steeplelaw08_awake.calls k)) (fun k => tie _) k (fun j hj => calls_ok (kc (code_New.ok j) (kc (code_Code_Encode.ok j) (kc (steeplelaw01_Same.ok j) (kn))))) 400 Tryz.func5 (body := steeplelaw08_awake.body) (res := [.tmp 0]) rfl (by kernel_rfl) steeplelaw08_awake.cuts (kn) (fun x => by kernel_rfl), _, Tryz.func5, by kernel_rfl, by kernel_rfl⟩
/-! ### steeple/antt.Back: function 20 -/
mutual
def antt_Back.l6 : Nat → Option S84 → Int → Int → Int → Int → List S47 → Option ((List S47) × Int)
  | 0, _, _, _, _, _, _ => none
  | k + 1, x0, x1, x2, x3, x4, x5 => if x2 < x1 then (if 0 ≤ x2 then (if wrap64 (2 * (shl .i64 1 x2)) = 0 then none else antt_Back.l10 k x0 x2 (shl .i64 1 x2) x1 x2 (wrap64 (Int.tdiv (x5.length : Int) (wrap64 (2 * (shl .i64 1 x2))))) 0 x3 x4 x5) else none) else some (x5, 0)
def antt_Back.l10 : Nat → Option S84 → Int → Int → Int → Int → Int → Int → Int → Int → List S47 → Option ((List S47) × Int)
  | 0, _, _, _, _, _, _, _, _, _, _ => none
  | k + 1, x0, x1, x2, x3, x4, x5, x6, x7, x8, x9 => if x6 < x5 then ((antt_twist.f k x0 x1 x6 (⟨x7, x8⟩ : S47)).bind fun r2 => antt_Back.l14 k x0 x1 x2 x6 x3 x4 x5 x6 x2 0 x7 x8 x9 r2.f0 r2.f1) else antt_Back.l6 k x0 x3 (wrap64 (x4 + 1)) x7 x8 x9
def antt_Back.l14 : Nat → Option S84 → Int → Int → Int → Int → Int → Int → Int → Int → Int → Int → Int → List S47 → Int → Int → Option ((List S47) × Int)
  | 0, _, _, _, _, _, _, _, _, _, _, _, _, _, _, _ => none
  | k + 1, x0, x1, x2, x3, x4, x5, x6, x7, x8, x9, x10, x11, x12, x13, x14 => if x9 < x8 then (if 0 ≤ wrap64 ((wrap64 ((wrap64 (2 * x2)) * x3)) + x9) then (if wrap64 ((wrap64 ((wrap64 (2 * x2)) * x3)) + x9) < (x12.length : Int) then (if 0 ≤ wrap64 ((wrap64 ((wrap64 ((wrap64 (2 * x2)) * x3)) + x2)) + x9) then (if wrap64 ((wrap64 ((wrap64 ((wrap64 (2 * x2)) * x3)) + x2)) + x9) < (x12.length : Int) then ((tower_Add.f k (rd47 x12 (wrap64 ((wrap64 ((wrap64 (2 * x2)) * x3)) + x9))) (rd47 x12 (wrap64 ((wrap64 ((wrap64 ((wrap64 (2 * x2)) * x3)) + x2)) + x9)))).bind fun r3 => if 0 ≤ wrap64 ((wrap64 ((wrap64 ((wrap64 (2 * x2)) * x3)) + x2)) + x9) then (if wrap64 ((wrap64 ((wrap64 ((wrap64 (2 * x2)) * x3)) + x2)) + x9) < (x12.length : Int) then (if 0 ≤ wrap64 ((wrap64 ((wrap64 (2 * x2)) * x3)) + x9) then (if wrap64 ((wrap64 ((wrap64 (2 * x2)) * x3)) + x9) < ((x12.set (Int.toNat (wrap64 ((wrap64 ((wrap64 ((wrap64 (2 * x2)) * x3)) + x2)) + x9))) r3).length : Int) then ((linpoly_Space_Level.f k x0).bind fun r4 => if 0 ≤ wrap64 ((wrap64 ((wrap64 ((wrap64 (2 * x2)) * x3)) + x2)) + x9) then (if wrap64 ((wrap64 ((wrap64 ((wrap64 (2 * x2)) * x3)) + x2)) + x9) < ((x12.set (Int.toNat (wrap64 ((wrap64 ((wrap64 ((wrap64 (2 * x2)) * x3)) + x2)) + x9))) r3).length : Int) then ((tower_Mul.f k r4 (⟨x13, x14⟩ : S47) (rd47 (x12.set (Int.toNat (wrap64 ((wrap64 ((wrap64 ((wrap64 (2 * x2)) * x3)) + x2)) + x9))) r3) (wrap64 ((wrap64 ((wrap64 ((wrap64 (2 * x2)) * x3)) + x2)) + x9)))).bind fun r5 => (tower_Add.f k (rd47 (x12.set (Int.toNat (wrap64 ((wrap64 ((wrap64 ((wrap64 (2 * x2)) * x3)) + x2)) + x9))) r3) (wrap64 ((wrap64 ((wrap64 (2 * x2)) * x3)) + x9))) r5).bind fun r6 => if 0 ≤ wrap64 ((wrap64 ((wrap64 (2 * x2)) * x3)) + x9) then (if wrap64 ((wrap64 ((wrap64 (2 * x2)) * x3)) + x9) < ((x12.set (Int.toNat (wrap64 ((wrap64 ((wrap64 ((wrap64 (2 * x2)) * x3)) + x2)) + x9))) r3).length : Int) then antt_Back.l14 k x0 x1 x2 x3 x4 x5 x6 x7 x8 (wrap64 (x9 + 1)) x10 x11 ((x12.set (Int.toNat (wrap64 ((wrap64 ((wrap64 ((wrap64 (2 * x2)) * x3)) + x2)) + x9))) r3).set (Int.toNat (wrap64 ((wrap64 ((wrap64 (2 * x2)) * x3)) + x9))) r6) x13 x14 else none) else none) else none) else none) else none) else none) else none) else none) else none) else none) else none) else none) else antt_Back.l10 k x0 x1 x2 x4 x5 x6 (wrap64 (x7 + 1)) x10 x11 x12
end
def antt_Back.f (k : Nat) (a0 : Option S84) (a1 : List S47) (a2 : S47) : Option ((List S47) × Int) := (antt_ask.f k a0 a1 a2).bind fun r0 => if r0.2 = 0 then ((slices_Clone44.f k a1).bind fun r1 => antt_Back.l6 k a0 r0.1 0 a2.f0 a2.f1 r1) else some ([], r0.2)
def antt_Back.sig (k : Nat) : Sig E.toTys := ⟨[.ptr (.st 2), .slice (.st 1), .st 1], [(true, .slice (.st 1)), (false, .int .i64)], none, fun x => f k x.1 x.2.1 x.2.2.1⟩
noncomputable def antt_Back.body : Code := Tryz.f20.body.getD .skip
def antt_Back.calls (k : Nat) : List (Nat × Sig E.toTys) := [(43, antt_ask.sig k), (44, slices_Clone44.sig k), (45, antt_twist.sig k), (30, tower_Add.sig k), (46, linpoly_Space_Level.sig k), (33, tower_Mul.sig k)]
def antt_Back.cuts : List (Cut E (RT E.toTys [(true, .slice (.st 1)), (false, .int .i64)])) := [⟨true, 6, ⟨cat [.one (.val (.ptr (.st 2)))] (cat (ds 4) (cat [.one (.ptr 0 0)] (cat (ds 4) (cat [.one (.ref 1)] (cat (ds 19) (cat [.one (.val (.int .i64)), .one (.val (.int .i64))] (ds 67))))))), [.var [.val (.int .u64), .val (.int .u64)], .arr (.st 1)], false⟩, fun k x => antt_Back.l6 k x.1.1 x.1.2.1 x.1.2.2.1 x.2.1.1 x.2.1.2.1 x.2.2.1⟩,
  ⟨true, 10, ⟨cat [.one (.val (.ptr (.st 2)))] (cat (ds 4) (cat [.one (.ptr 0 0)] (cat (ds 4) (cat [.one (.ref 1), .one (.val (.int .i64)), .one (.val (.int .i64))] (cat (ds 17) (cat [.one (.val (.int .i64)), .one (.val (.int .i64))] (cat (ds 8) (cat [.one (.val (.int .i64)), .one (.val (.int .i64))] (ds 57))))))))), [.var [.val (.int .u64), .val (.int .u64)], .arr (.st 1)], false⟩, fun k x => antt_Back.l10 k x.1.1 x.1.2.1 x.1.2.2.1 x.1.2.2.2.1 x.1.2.2.2.2.1 x.1.2.2.2.2.2.1 x.1.2.2.2.2.2.2.1 x.2.1.1 x.2.1.2.1 x.2.2.1⟩,
  ⟨true, 14, ⟨cat [.one (.val (.ptr (.st 2)))] (cat (ds 4) (cat [.one (.ptr 0 0)] (cat (ds 4) (cat [.one (.ref 1), .one (.val (.int .i64)), .one (.val (.int .i64)), .one (.val (.int .i64)), .one (.ptr 2 0)] (cat (ds 15) (cat [.one (.val (.int .i64)), .one (.val (.int .i64))] (cat (ds 8) (cat [.one (.val (.int .i64)), .one (.val (.int .i64))] (cat (ds 7) (cat [.one (.val (.int .i64)), .one (.val (.int .i64))] (ds 48))))))))))), [.var [.val (.int .u64), .val (.int .u64)], .arr (.st 1), .var [.val (.int .u64), .val (.int .u64)]], false⟩, fun k x => antt_Back.l14 k x.1.1 x.1.2.1 x.1.2.2.1 x.1.2.2.2.1 x.1.2.2.2.2.1 x.1.2.2.2.2.2.1 x.1.2.2.2.2.2.2.1 x.1.2.2.2.2.2.2.2.1 x.1.2.2.2.2.2.2.2.2.1 x.1.2.2.2.2.2.2.2.2.2.1 x.2.1.1 x.2.1.2.1 x.2.2.1 x.2.2.2.1.1 x.2.2.2.1.2.1⟩]
theorem antt_Back.ok (k : Nat) : Okf (XR E) Tryz.prog 20 (antt_Back.sig k) := ⟨fn_ok (C := fun k => tab.ctx fun f => lk f (antt_Back.calls k)) (fun k => tie _) k (fun j hj => calls_ok (kc (antt_ask.ok j) (kc (slices_Clone44.ok j) (kc (antt_twist.ok j) (kc (tower_Add.ok j) (kc (linpoly_Space_Level.ok j) (kc (tower_Mul.ok j) (kn)))))))) 400 Tryz.func20 (body := antt_Back.body) (res := [.tmp 6, .tmp 7]) rfl (by kernel_rfl) antt_Back.cuts (kc ⟨by kernel_rfl, rfl, fun _ => rfl, fun _ _ => by kernel_rfl⟩ (kc ⟨by kernel_rfl, rfl, fun _ => rfl, fun _ _ => by kernel_rfl⟩ (kc ⟨by kernel_rfl, rfl, fun _ => rfl, fun _ _ => by kernel_rfl⟩ (kn)))) (fun x => by kernel_rfl), _, Tryz.func20, by kernel_rfl, by kernel_rfl⟩
/-! ### steeple/novel.Degree: function 21 -/
def novel_Degree.l2 : Nat → List S47 → Int → Option Int
  | 0, _, _ => none
  | k + 1, x0, x1 => if x1 ≥ 0 then (if 0 ≤ x1 then (if x1 < (x0.length : Int) then (if (rd47 x0 x1).f0 = 0 ∧ (rd47 x0 x1).f1 = 0 then novel_Degree.l2 k x0 (wrap64 (x1 - 1)) else some x1) else none) else none) else some (-1)
def novel_Degree.f (k : Nat) (a0 : List S47) : Option Int := novel_Degree.l2 k a0 (wrap64 ((a0.length : Int) - 1))
def novel_Degree.sig (k : Nat) : Sig E.toTys := ⟨[.slice (.st 1)], [(false, .int .i64)], none, fun x => f k x.1⟩
noncomputable def novel_Degree.body : Code := Tryz.f21.body.getD .skip
def novel_Degree.calls (k : Nat) : List (Nat × Sig E.toTys) := []
def novel_Degree.cuts : List (Cut E (RT E.toTys [(false, .int .i64)])) := [⟨true, 2, ⟨cat [.one (.val (.slice (.st 1)))] (cat (ds 2) (cat [.one (.val (.int .i64))] (ds 14))), [], false⟩, fun k x => novel_Degree.l2 k x.1.1 x.1.2.1⟩]
theorem novel_Degree.ok (k : Nat) : Okf (XR E) Tryz.prog 21 (novel_Degree.sig k) := ⟨fn_ok (C := fun k => tab.ctx fun f => lk f (novel_Degree.calls k)) (fun k => tie _) k (fun j hj => calls_ok (kn)) 400 Tryz.func21 (body := novel_Degree.body) (res := [.tmp 2]) rfl (by kernel_rfl) novel_Degree.cuts (kc ⟨by kernel_rfl, rfl, fun _ => rfl, fun _ _ => by kernel_rfl⟩ (kn)) (fun x => by kernel_rfl), _, Tryz.func21, by kernel_rfl, by kernel_rfl⟩
/-! ### (*steeple/code.Code).Decode: function 6 -/
def code_Code_Decode.f (k : Nat) (a0 : Option S53) (a1 : List S47) : Option ((List S47) × Int) := (code_Code_Long.f k a0).bind fun r0 => (code_Code_ask.f k a0 a1 r0).bind fun r1 => if r1 = 0 then ((match a0 with | none => none | some r2 => (antt_Back.f k r2.f0 a1 (⟨0, 0⟩ : S47)).bind fun r3 => if r3.2 = 0 then ((novel_Degree.f k r3.1).bind fun r4 => (code_Code_Size.f k a0).bind fun r5 => if r4 ≥ r5 then some ([], 7) else (code_Code_Size.f k a0).bind fun r6 => if 0 ≤ r6 then (if r6 ≤ (r3.1.length : Int) then some (r3.1.take (Int.toNat r6), 0) else none) else none) else some ([], r3.2))) else some ([], r1)
def code_Code_Decode.sig (k : Nat) : Sig E.toTys := ⟨[.ptr (.st 3), .slice (.st 1)], [(true, .slice (.st 1)), (false, .int .i64)], none, fun x => f k x.1 x.2.1⟩
noncomputable def code_Code_Decode.body : Code := Tryz.f6.body.getD .skip
def code_Code_Decode.calls (k : Nat) : List (Nat × Sig E.toTys) := [(19, code_Code_Long.sig k), (18, code_Code_ask.sig k), (20, antt_Back.sig k), (21, novel_Degree.sig k), (10, code_Code_Size.sig k)]
def code_Code_Decode.cuts : List (Cut E (RT E.toTys [(true, .slice (.st 1)), (false, .int .i64)])) := []
theorem code_Code_Decode.ok (k : Nat) : Okf (XR E) Tryz.prog 6 (code_Code_Decode.sig k) := ⟨fn_ok (C := fun k => tab.ctx fun f => lk f (code_Code_Decode.calls k)) (fun k => tie _) k (fun j hj => calls_ok (kc (code_Code_Long.ok j) (kc (code_Code_ask.ok j) (kc (antt_Back.ok j) (kc (novel_Degree.ok j) (kc (code_Code_Size.ok j) (kn))))))) 400 Tryz.func6 (body := code_Code_Decode.body) (res := [.tmp 4, .tmp 5]) rfl (by kernel_rfl) code_Code_Decode.cuts (kn) (fun x => by kernel_rfl), _, Tryz.func6, by kernel_rfl, by kernel_rfl⟩
/-! ### steeple/steeplelaw01.Ref: function 8 -/
def steeplelaw01_Ref.l3 : Nat → List S47 → Int → List S48 → Option (List S48)
  | 0, _, _, _ => none
  | k + 1, x0, x1, x2 => if x1 < (x0.length : Int) then (if 0 ≤ x1 then (if x1 < (x0.length : Int) then (if x2.length + [(⟨(rd47 x0 x1).f0, (rd47 x0 x1).f1⟩ : S48)].length ≤ 140737488355328 / 16 then steeplelaw01_Ref.l3 k x0 (wrap64 (x1 + 1)) (x2 ++ [(⟨(rd47 x0 x1).f0, (rd47 x0 x1).f1⟩ : S48)]) else none) else none) else none) else some x2
def steeplelaw01_Ref.f (k : Nat) (a0 : List S47) : Option (List S48) := steeplelaw01_Ref.l3 k a0 0 []
def steeplelaw01_Ref.sig (k : Nat) : Sig E.toTys := ⟨[.slice (.st 1)], [(true, .slice (.st 4))], none, fun x => f k x.1⟩
noncomputable def steeplelaw01_Ref.body : Code := Tryz.f8.body.getD .skip
def steeplelaw01_Ref.calls (k : Nat) : List (Nat × Sig E.toTys) := []
def steeplelaw01_Ref.cuts : List (Cut E (RT E.toTys [(true, .slice (.st 4))])) := [⟨true, 3, ⟨cat [.one (.val (.slice (.st 1)))] (cat (ds 2) (cat [.one (.ref 0), .one (.val (.int .i64))] (ds 14))), [.arr (.st 4)], false⟩, fun k x => steeplelaw01_Ref.l3 k x.1.1 x.1.2.1 x.2.1⟩]
theorem steeplelaw01_Ref.ok (k : Nat) : Okf (XR E) Tryz.prog 8 (steeplelaw01_Ref.sig k) := ⟨fn_ok (C := fun k => tab.ctx fun f => lk f (steeplelaw01_Ref.calls k)) (fun k => tie _) k (fun j hj => calls_ok (kn)) 400 Tryz.func8 (body := steeplelaw01_Ref.body) (res := [.tmp 2]) rfl (by kernel_rfl) steeplelaw01_Ref.cuts (kc ⟨by kernel_rfl, rfl, fun _ => rfl, fun _ _ => by kernel_rfl⟩ (kn)) (fun x => by kernel_rfl), _, Tryz.func8, by kernel_rfl, by kernel_rfl⟩
/-! ### steeple/steepleref08.Two: function 9 -/
def steepleref08_Two.l3 : Nat → Int → Int → Int → Option Int
  | 0, _, _, _ => none
  | k + 1, x0, x1, x2 => if x2 < x0 then steepleref08_Two.l3 k x0 (wrap64 (2 * x1)) (wrap64 (x2 + 1)) else some x1
def steepleref08_Two.f (k : Nat) (a0 : Int) : Option Int := steepleref08_Two.l3 k a0 1 0
def steepleref08_Two.sig (k : Nat) : Sig E.toTys := ⟨[.int .i64], [(false, .int .i64)], none, fun x => f k x.1⟩
noncomputable def steepleref08_Two.body : Code := Tryz.f9.body.getD .skip
def steepleref08_Two.calls (k : Nat) : List (Nat × Sig E.toTys) := []
def steepleref08_Two.cuts : List (Cut E (RT E.toTys [(false, .int .i64)])) := [⟨true, 3, ⟨cat [.one (.val (.int .i64))] (cat (ds 2) (cat [.one (.val (.int .i64)), .one (.val (.int .i64))] (ds 8))), [], false⟩, fun k x => steepleref08_Two.l3 k x.1.1 x.1.2.1 x.1.2.2.1⟩]
theorem steepleref08_Two.ok (k : Nat) : Okf (XR E) Tryz.prog 9 (steepleref08_Two.sig k) := ⟨fn_ok (C := fun k => tab.ctx fun f => lk f (steepleref08_Two.calls k)) (fun k => tie _) k (fun j hj => calls_ok (kn)) 400 Tryz.func9 (body := steepleref08_Two.body) (res := [.tmp 2]) rfl (by kernel_rfl) steepleref08_Two.cuts (kc ⟨by kernel_rfl, rfl, fun _ => rfl, fun _ _ => by kernel_rfl⟩ (kn)) (fun x => by kernel_rfl), _, Tryz.func9, by kernel_rfl, by kernel_rfl⟩
/-! ### steeple/steepleref01.bit: function 68 -/
def steepleref01_bit.f (k : Nat) (a0 : S48) (a1 : Int) : Option Int := if a1 ≥ 64 then (if 0 ≤ IntKind.u64.wrap (wrap64 (a1 - 64)) then some (bits .and .u64 (shr .u64 a0.f0 (IntKind.u64.wrap (wrap64 (a1 - 64)))) 1) else none) else if 0 ≤ IntKind.u64.wrap a1 then some (bits .and .u64 (shr .u64 a0.f1 (IntKind.u64.wrap a1)) 1) else none
def steepleref01_bit.sig (k : Nat) : Sig E.toTys := ⟨[.st 4, .int .i64], [(false, .int .u64)], none, fun x => f k x.1 x.2.1⟩
noncomputable def steepleref01_bit.body : Code := Tryz.f68.body.getD .skip
def steepleref01_bit.calls (k : Nat) : List (Nat × Sig E.toTys) := []
def steepleref01_bit.cuts : List (Cut E (RT E.toTys [(false, .int .u64)])) := []
theorem steepleref01_bit.ok (k : Nat) : Okf (XR E) Tryz.prog 68 (steepleref01_bit.sig k) := ⟨fn_ok (C := fun k => tab.ctx fun f => lk f (steepleref01_bit.calls k)) (fun k => tie _) k (fun j hj => calls_ok (kn)) 400 Tryz.func68 (body := steepleref01_bit.body) (res := [.tmp 4]) rfl (by kernel_rfl) steepleref01_bit.cuts (kn) (fun x => by kernel_rfl), _, Tryz.func68, by kernel_rfl, by kernel_rfl⟩
/-! ### steeple/steepleref01.Of: function 47 -/
def steepleref01_Of.l5 : Nat → Int → Int → Int → Option Bool
  | 0, _, _, _ => none
  | k + 1, x0, x1, x2 => if x0 < 128 then ((steepleref01_bit.f k (⟨x1, x2⟩ : S48) x0).bind fun r0 => if r0 = 1 then some false else steepleref01_Of.l5 k (wrap64 (x0 + 1)) x1 x2) else some true
def steepleref01_Of.f (k : Nat) (a0 : Int) (a1 : S48) : Option Bool := if a0 < 0 then some false else if a0 > 7 then some false else if 0 ≤ a0 then (if a0 < ([1, 2, 4, 8, 16, 32, 64, 128].length : Int) then steepleref01_Of.l5 k (rdI [1, 2, 4, 8, 16, 32, 64, 128] a0) a1.f0 a1.f1 else none) else none
def steepleref01_Of.sig (k : Nat) : Sig E.toTys := ⟨[.int .i64, .st 4], [(false, .bool)], none, fun x => f k x.1 x.2.1⟩
noncomputable def steepleref01_Of.body : Code := Tryz.f47.body.getD .skip
def steepleref01_Of.calls (k : Nat) : List (Nat × Sig E.toTys) := [(68, steepleref01_bit.sig k)]
def steepleref01_Of.cuts : List (Cut E (RT E.toTys [(false, .bool)])) := [⟨true, 5, ⟨cat (ds 3) (cat [.one (.ptr 0 0)] (cat (ds 2) (cat [.one (.val (.int .i64))] (ds 19)))), [.var [.val (.int .u64), .val (.int .u64)]], false⟩, fun k x => steepleref01_Of.l5 k x.1.1 x.2.1.1 x.2.1.2.1⟩]
theorem steepleref01_Of.ok (k : Nat) : Okf (XR E) Tryz.prog 47 (steepleref01_Of.sig k) := ⟨fn_ok (C := fun k => tab.ctx fun f => lk f (steepleref01_Of.calls k)) (fun k => tie _) k (fun j hj => calls_ok (kc (steepleref01_bit.ok j) (kn))) 400 Tryz.func47 (body := steepleref01_Of.body) (res := [.tmp 4]) rfl (by kernel_rfl) steepleref01_Of.cuts (kc ⟨by kernel_rfl, rfl, fun _ => rfl, fun _ _ => by kernel_rfl⟩ (kn)) (fun x => by kernel_rfl), _, Tryz.func47, by kernel_rfl, by kernel_rfl⟩
/-! ### steeple/steepleref06.All: function 22 -/
def steepleref06_All.l2 : Nat → Int → List S48 → Int → Option Bool
  | 0, _, _, _ => none
  | k + 1, x0, x1, x2 => if x2 < (x1.length : Int) then (if 0 ≤ x2 then (if x2 < (x1.length : Int) then ((steepleref01_Of.f k x0 (rd48 x1 x2)).bind fun r0 => if (!r0) = true then some false else steepleref06_All.l2 k x0 x1 (wrap64 (x2 + 1))) else none) else none) else some true
def steepleref06_All.f (k : Nat) (a0 : Int) (a1 : List S48) : Option Bool := steepleref06_All.l2 k a0 a1 0
def steepleref06_All.sig (k : Nat) : Sig E.toTys := ⟨[.int .i64, .slice (.st 4)], [(false, .bool)], none, fun x => f k x.1 x.2.1⟩
noncomputable def steepleref06_All.body : Code := Tryz.f22.body.getD .skip
def steepleref06_All.calls (k : Nat) : List (Nat × Sig E.toTys) := [(47, steepleref01_Of.sig k)]
def steepleref06_All.cuts : List (Cut E (RT E.toTys [(false, .bool)])) := [⟨true, 2, ⟨cat [.one (.val (.int .i64)), .one (.val (.slice (.st 4)))] (cat (ds 3) (cat [.one (.val (.int .i64))] (ds 13))), [], false⟩, fun k x => steepleref06_All.l2 k x.1.1 x.1.2.1 x.1.2.2.1⟩]
theorem steepleref06_All.ok (k : Nat) : Okf (XR E) Tryz.prog 22 (steepleref06_All.sig k) := ⟨fn_ok (C := fun k => tab.ctx fun f => lk f (steepleref06_All.calls k)) (fun k => tie _) k (fun j hj => calls_ok (kc (steepleref01_Of.ok j) (kn))) 400 Tryz.func22 (body := steepleref06_All.body) (res := [.tmp 4]) rfl (by kernel_rfl) steepleref06_All.cuts (kc ⟨by kernel_rfl, rfl, fun _ => rfl, fun _ _ => by kernel_rfl⟩ (kn)) (fun x => by kernel_rfl), _, Tryz.func22, by kernel_rfl, by kernel_rfl⟩
/-! ### steeple/steepleref08.May: function 7 -/
def steepleref08_May.f (k : Nat) (a0 : Int) (a1 : List S48) (a2 : Int) : Option Int := if (a1.length : Int) = a2 then ((steepleref06_All.f k a0 a1).bind fun r0 => if (!r0) = true then some 5 else some 0) else some 6
def steepleref08_May.sig (k : Nat) : Sig E.toTys := ⟨[.int .i64, .slice (.st 4), .int .i64], [(false, .int .i64)], none, fun x => f k x.1 x.2.1 x.2.2.1⟩
noncomputable def steepleref08_May.body : Code := Tryz.f7.body.getD .skip
def steepleref08_May.calls (k : Nat) : List (Nat × Sig E.toTys) := [(22, steepleref06_All.sig k)]
def steepleref08_May.cuts : List (Cut E (RT E.toTys [(false, .int .i64)])) := []
theorem steepleref08_May.ok (k : Nat) : Okf (XR E) Tryz.prog 7 (steepleref08_May.sig k) := ⟨fn_ok (C := fun k => tab.ctx fun f => lk f (steepleref08_May.calls k)) (fun k => tie _) k (fun j hj => calls_ok (kc (steepleref06_All.ok j) (kn))) 400 Tryz.func7 (body := steepleref08_May.body) (res := [.tmp 6]) rfl (by kernel_rfl) steepleref08_May.cuts (kn) (fun x => by kernel_rfl), _, Tryz.func7, by kernel_rfl, by kernel_rfl⟩
/-! ### steeple/steepleref02.Bit: function 48 -/
def steepleref02_Bit.f (k : Nat) (a0 : Int) : Option S48 := if a0 < 0 then some (⟨0, 0⟩ : S48) else if a0 > 127 then some (⟨0, 0⟩ : S48) else if a0 > 63 then (if 0 ≤ IntKind.u64.wrap (wrap64 (a0 - 64)) then some (⟨shl .u64 1 (IntKind.u64.wrap (wrap64 (a0 - 64))), 0⟩ : S48) else none) else if 0 ≤ IntKind.u64.wrap a0 then some (⟨0, shl .u64 1 (IntKind.u64.wrap a0)⟩ : S48) else none
def steepleref02_Bit.sig (k : Nat) : Sig E.toTys := ⟨[.int .i64], [(false, .st 4)], none, fun x => f k x.1⟩
noncomputable def steepleref02_Bit.body : Code := Tryz.f48.body.getD .skip
def steepleref02_Bit.calls (k : Nat) : List (Nat × Sig E.toTys) := []
def steepleref02_Bit.cuts : List (Cut E (RT E.toTys [(false, .st 4)])) := []
theorem steepleref02_Bit.ok (k : Nat) : Okf (XR E) Tryz.prog 48 (steepleref02_Bit.sig k) := ⟨fn_ok (C := fun k => tab.ctx fun f => lk f (steepleref02_Bit.calls k)) (fun k => tie _) k (fun j hj => calls_ok (kn)) 400 Tryz.func48 (body := steepleref02_Bit.body) (res := [.cell 2 48]) rfl (by kernel_rfl) steepleref02_Bit.cuts (kn) (fun x => by kernel_rfl), _, Tryz.func48, by kernel_rfl, by kernel_rfl⟩
/-! ### steeple/steepleref08.Plain: function 23 -/
def steepleref08_Plain.l3 : Nat → Int → Int → List S48 → Option (List S48)
  | 0, _, _, _ => none
  | k + 1, x0, x1, x2 => if x1 < x0 then ((steepleref02_Bit.f k x1).bind fun r0 => if x2.length + [r0].length ≤ 140737488355328 / 16 then steepleref08_Plain.l3 k x0 (wrap64 (x1 + 1)) (x2 ++ [r0]) else none) else some x2
def steepleref08_Plain.f (k : Nat) (a0 : Int) : Option (List S48) := steepleref08_Plain.l3 k a0 0 []
def steepleref08_Plain.sig (k : Nat) : Sig E.toTys := ⟨[.int .i64], [(true, .slice (.st 4))], none, fun x => f k x.1⟩
noncomputable def steepleref08_Plain.body : Code := Tryz.f23.body.getD .skip
def steepleref08_Plain.calls (k : Nat) : List (Nat × Sig E.toTys) := [(48, steepleref02_Bit.sig k)]
def steepleref08_Plain.cuts : List (Cut E (RT E.toTys [(true, .slice (.st 4))])) := [⟨true, 3, ⟨cat [.one (.val (.int .i64))] (cat (ds 2) (cat [.one (.ref 0), .one (.val (.int .i64))] (ds 11))), [.arr (.st 4)], false⟩, fun k x => steepleref08_Plain.l3 k x.1.1 x.1.2.1 x.2.1⟩]
theorem steepleref08_Plain.ok (k : Nat) : Okf (XR E) Tryz.prog 23 (steepleref08_Plain.sig k) := ⟨fn_ok (C := fun k => tab.ctx fun f => lk f (steepleref08_Plain.calls k)) (fun k => tie _) k (fun j hj => calls_ok (kc (steepleref02_Bit.ok j) (kn))) 400 Tryz.func23 (body := steepleref08_Plain.body) (res := [.tmp 2]) rfl (by kernel_rfl) steepleref08_Plain.cuts (kc ⟨by kernel_rfl, rfl, fun _ => rfl, fun _ _ => by kernel_rfl⟩ (kn)) (fun x => by kernel_rfl), _, Tryz.func23, by kernel_rfl, by kernel_rfl⟩
/-! ### steeple/steepleref02.Add: function 49 -/
def steepleref02_Add.f (k : Nat) (a0 : S48) (a1 : S48) : Option S48 := some (⟨bits .xor .u64 a0.f0 a1.f0, bits .xor .u64 a0.f1 a1.f1⟩ : S48)
def steepleref02_Add.sig (k : Nat) : Sig E.toTys := ⟨[.st 4, .st 4], [(false, .st 4)], none, fun x => f k x.1 x.2.1⟩
noncomputable def steepleref02_Add.body : Code := Tryz.f49.body.getD .skip
def steepleref02_Add.calls (k : Nat) : List (Nat × Sig E.toTys) := []
def steepleref02_Add.cuts : List (Cut E (RT E.toTys [(false, .st 4)])) := []
theorem steepleref02_Add.ok (k : Nat) : Okf (XR E) Tryz.prog 49 (steepleref02_Add.sig k) := ⟨fn_ok (C := fun k => tab.ctx fun f => lk f (steepleref02_Add.calls k)) (fun k => tie _) k (fun j hj => calls_ok (kn)) 400 Tryz.func49 (body := steepleref02_Add.body) (res := [.cell 4 48]) rfl (by kernel_rfl) steepleref02_Add.cuts (kn) (fun x => by kernel_rfl), _, Tryz.func49, by kernel_rfl, by kernel_rfl⟩
/-! ### steeple/steepleref05.Points: function 24 -/
mutual
def steepleref05_Points.l3 : Nat → List S48 → Int → Int → List S48 → Option (List S48)
  | 0, _, _, _, _ => none
  | k + 1, x0, x1, x2, x3 => if x2 < x1 then steepleref05_Points.l7 k x0 x1 x2 (x3.length : Int) 0 x3 else some x3
def steepleref05_Points.l7 : Nat → List S48 → Int → Int → Int → Int → List S48 → Option (List S48)
  | 0, _, _, _, _, _, _ => none
  | k + 1, x0, x1, x2, x3, x4, x5 => if x4 < x3 then (if 0 ≤ x4 then (if x4 < (x5.length : Int) then (if 0 ≤ x2 then (if x2 < (x0.length : Int) then ((steepleref02_Add.f k (rd48 x5 x4) (rd48 x0 x2)).bind fun r0 => if x5.length + [r0].length ≤ 140737488355328 / 16 then steepleref05_Points.l7 k x0 x1 x2 x3 (wrap64 (x4 + 1)) (x5 ++ [r0]) else none) else none) else none) else none) else none) else steepleref05_Points.l3 k x0 x1 (wrap64 (x2 + 1)) x5
end
def steepleref05_Points.f (k : Nat) (a0 : List S48) (a1 : Int) (a2 : S48) : Option (List S48) := steepleref05_Points.l3 k a0 a1 0 [a2]
def steepleref05_Points.sig (k : Nat) : Sig E.toTys := ⟨[.slice (.st 4), .int .i64, .st 4], [(true, .slice (.st 4))], none, fun x => f k x.1 x.2.1 x.2.2.1⟩
noncomputable def steepleref05_Points.body : Code := Tryz.f24.body.getD .skip
def steepleref05_Points.calls (k : Nat) : List (Nat × Sig E.toTys) := [(49, steepleref02_Add.sig k)]
def steepleref05_Points.cuts : List (Cut E (RT E.toTys [(true, .slice (.st 4))])) := [⟨true, 3, ⟨cat [.one (.val (.slice (.st 4))), .one (.val (.int .i64))] (cat (ds 5) (cat [.one (.ref 0), .one (.val (.int .i64))] (ds 29))), [.arr (.st 4)], false⟩, fun k x => steepleref05_Points.l3 k x.1.1 x.1.2.1 x.1.2.2.1 x.2.1⟩,
  ⟨true, 7, ⟨cat [.one (.val (.slice (.st 4))), .one (.val (.int .i64))] (cat (ds 5) (cat [.one (.ref 0), .one (.val (.int .i64)), .one (.val (.int .i64)), .one (.val (.int .i64))] (ds 27))), [.arr (.st 4)], false⟩, fun k x => steepleref05_Points.l7 k x.1.1 x.1.2.1 x.1.2.2.1 x.1.2.2.2.1 x.1.2.2.2.2.1 x.2.1⟩]
theorem steepleref05_Points.ok (k : Nat) : Okf (XR E) Tryz.prog 24 (steepleref05_Points.sig k) := ⟨fn_ok (C := fun k => tab.ctx fun f => lk f (steepleref05_Points.calls k)) (fun k => tie _) k (fun j hj => calls_ok (kc (steepleref02_Add.ok j) (kn))) 400 Tryz.func24 (body := steepleref05_Points.body) (res := [.tmp 6]) rfl (by kernel_rfl) steepleref05_Points.cuts (kc ⟨by kernel_rfl, rfl, fun _ => rfl, fun _ _ => by kernel_rfl⟩ (kc ⟨by kernel_rfl, rfl, fun _ => rfl, fun _ _ => by kernel_rfl⟩ (kn))) (fun x => by kernel_rfl), _, Tryz.func24, by kernel_rfl, by kernel_rfl⟩
/-! ### steeple/steepleref02.Has: function 69 -/
def steepleref02_Has.f (k : Nat) (a0 : S48) (a1 : Int) : Option Bool := (steepleref02_Bit.f k a1).bind fun r0 => some (!decide (bits .or .u64 (bits .and .u64 a0.f1 r0.f1) (bits .and .u64 a0.f0 r0.f0) = 0))
def steepleref02_Has.sig (k : Nat) : Sig E.toTys := ⟨[.st 4, .int .i64], [(false, .bool)], none, fun x => f k x.1 x.2.1⟩
noncomputable def steepleref02_Has.body : Code := Tryz.f69.body.getD .skip
def steepleref02_Has.calls (k : Nat) : List (Nat × Sig E.toTys) := [(48, steepleref02_Bit.sig k)]
def steepleref02_Has.cuts : List (Cut E (RT E.toTys [(false, .bool)])) := []
theorem steepleref02_Has.ok (k : Nat) : Okf (XR E) Tryz.prog 69 (steepleref02_Has.sig k) := ⟨fn_ok (C := fun k => tab.ctx fun f => lk f (steepleref02_Has.calls k)) (fun k => tie _) k (fun j hj => calls_ok (kc (steepleref02_Bit.ok j) (kn))) 400 Tryz.func69 (body := steepleref02_Has.body) (res := [.tmp 4]) rfl (by kernel_rfl) steepleref02_Has.cuts (kn) (fun x => by kernel_rfl), _, Tryz.func69, by kernel_rfl, by kernel_rfl⟩
/-! ### steeple/steepleref02.mask: function 90 -/
def steepleref02_mask.f (k : Nat) (a0 : Int) : Option Int := if 0 ≤ a0 then (if a0 < ([6148914691236517205, 3689348814741910323, 1085102592571150095, 71777214294589695, 281470681808895, 4294967295].length : Int) then some (rdI [6148914691236517205, 3689348814741910323, 1085102592571150095, 71777214294589695, 281470681808895, 4294967295] a0) else none) else none
def steepleref02_mask.sig (k : Nat) : Sig E.toTys := ⟨[.int .i64], [(false, .int .u64)], none, fun x => f k x.1⟩
noncomputable def steepleref02_mask.body : Code := Tryz.f90.body.getD .skip
def steepleref02_mask.calls (k : Nat) : List (Nat × Sig E.toTys) := []
def steepleref02_mask.cuts : List (Cut E (RT E.toTys [(false, .int .u64)])) := []
theorem steepleref02_mask.ok (k : Nat) : Okf (XR E) Tryz.prog 90 (steepleref02_mask.sig k) := ⟨fn_ok (C := fun k => tab.ctx fun f => lk f (steepleref02_mask.calls k)) (fun k => tie _) k (fun j hj => calls_ok (kn)) 400 Tryz.func90 (body := steepleref02_mask.body) (res := [.tmp 2]) rfl (by kernel_rfl) steepleref02_mask.cuts (kn) (fun x => by kernel_rfl), _, Tryz.func90, by kernel_rfl, by kernel_rfl⟩
/-! ### steeple/steepleref02.timesWord: function 84 -/
def steepleref02_timesWord.f : Nat → Int → Int → Option Int
  | 0, _, _ => none
  | k + 1, a0, a1 => if a0 < 0 then some a1 else if 0 ≤ IntKind.u64.wrap a0 then (if 0 ≤ shl .u64 1 (IntKind.u64.wrap a0) then ((steepleref02_mask.f k a0).bind fun r0 => (steepleref02_mask.f k a0).bind fun r1 => (steepleref02_timesWord.f k (wrap64 (a0 - 1)) (bits .and .u64 (shr .u64 a1 (shl .u64 1 (IntKind.u64.wrap a0))) r0)).bind fun r2 => if 0 ≤ shl .u64 1 (IntKind.u64.wrap a0) then some (bits .or .u64 (shl .u64 (bits .xor .u64 (bits .and .u64 a1 r1) r2) (shl .u64 1 (IntKind.u64.wrap a0))) (bits .and .u64 (shr .u64 a1 (shl .u64 1 (IntKind.u64.wrap a0))) r0)) else none) else none) else none
def steepleref02_timesWord.sig (k : Nat) : Sig E.toTys := ⟨[.int .i64, .int .u64], [(false, .int .u64)], none, fun x => f k x.1 x.2.1⟩
noncomputable def steepleref02_timesWord.body : Code := Tryz.f84.body.getD .skip
def steepleref02_timesWord.calls (k : Nat) : List (Nat × Sig E.toTys) := [(90, steepleref02_mask.sig k), (84, steepleref02_timesWord.sig k)]
def steepleref02_timesWord.cuts : List (Cut E (RT E.toTys [(false, .int .u64)])) := []
theorem steepleref02_timesWord.oks (k : Nat) : Okf (XR E) Tryz.prog 84 (steepleref02_timesWord.sig k) := by
  induction k using Nat.strongRecOn with
  | ind k ih =>
  cases k with
  | zero => exact ⟨ok0 fun _ => rfl, _, Tryz.func84, by kernel_rfl, by kernel_rfl⟩
  | succ k => exact ⟨fn_ok (C := fun k => tab.ctx fun f => lk f (steepleref02_timesWord.calls k)) (fun k => tie _) k (fun j hj => calls_ok (kc (steepleref02_mask.ok j) (kc (ih j (Nat.lt_succ_of_le hj)) (kn)))) 400 Tryz.func84 (body := steepleref02_timesWord.body) (res := [.tmp 4]) rfl (by kernel_rfl) steepleref02_timesWord.cuts (kn) (fun x => by kernel_rfl), _, Tryz.func84, by kernel_rfl, by kernel_rfl⟩
theorem steepleref02_timesWord.ok (k : Nat) : Okf (XR E) Tryz.prog 84 (steepleref02_timesWord.sig k) := (steepleref02_timesWord.oks k)
/-! ### steeple/steepleref02.Times: function 70 -/
def steepleref02_Times.f (k : Nat) (a0 : Int) (a1 : S48) : Option S48 := if a0 < 6 then ((steepleref02_timesWord.f k a0 a1.f0).bind fun r0 => (steepleref02_timesWord.f k a0 a1.f1).bind fun r1 => some (⟨r0, r1⟩ : S48)) else (steepleref02_timesWord.f k 5 a1.f0).bind fun r2 => some (⟨bits .xor .u64 a1.f1 r2, a1.f0⟩ : S48)
def steepleref02_Times.sig (k : Nat) : Sig E.toTys := ⟨[.int .i64, .st 4], [(false, .st 4)], none, fun x => f k x.1 x.2.1⟩
noncomputable def steepleref02_Times.body : Code := Tryz.f70.body.getD .skip
def steepleref02_Times.calls (k : Nat) : List (Nat × Sig E.toTys) := [(84, steepleref02_timesWord.sig k)]
def steepleref02_Times.cuts : List (Cut E (RT E.toTys [(false, .st 4)])) := []
theorem steepleref02_Times.ok (k : Nat) : Okf (XR E) Tryz.prog 70 (steepleref02_Times.sig k) := ⟨fn_ok (C := fun k => tab.ctx fun f => lk f (steepleref02_Times.calls k)) (fun k => tie _) k (fun j hj => calls_ok (kc (steepleref02_timesWord.ok j) (kn))) 400 Tryz.func70 (body := steepleref02_Times.body) (res := [.cell 4 48]) rfl (by kernel_rfl) steepleref02_Times.cuts (kn) (fun x => by kernel_rfl), _, Tryz.func70, by kernel_rfl, by kernel_rfl⟩
end Go.Proofs.YtbapldgapbmdkaaGreat.B
namespace Go.Proofs.YtbapldgapbmdkaaGreat.B
open Go.Proofs.YtbapldgapbmdkaaGreat.V.B Go.RowKit
set_option linter.unusedVariables false
/-! ### steeple/steepleref02.Product: function 50 -/
mutual
def steepleref02_Product.l3 : Nat → Int → Int → Int → Int → Int → Int → Int → Int → Int → Option S48
  | 0, _, _, _, _, _, _, _, _, _ => none
  | k + 1, x0, x1, x2, x3, x4, x5, x6, x7, x8 => if x0 < 128 then ((steepleref02_Has.f k (⟨x3, x4⟩ : S48) x0).bind fun r0 => if (!r0) = true then steepleref02_Product.l3 k (wrap64 (x0 + 1)) x1 x2 x3 x4 x5 x6 x7 x8 else steepleref02_Product.l8 k x0 0 x1 x2 x3 x4 x5 x6 x7 x8 x1 x2) else some (⟨x7, x8⟩ : S48)
def steepleref02_Product.l8 : Nat → Int → Int → Int → Int → Int → Int → Int → Int → Int → Int → Int → Int → Option S48
  | 0, _, _, _, _, _, _, _, _, _, _, _, _ => none
  | k + 1, x0, x1, x2, x3, x4, x5, x6, x7, x8, x9, x10, x11 => if x1 < 7 then (if 0 ≤ IntKind.u64.wrap x1 then (if bits .and .i64 (shr .i64 x0 (IntKind.u64.wrap x1)) 1 = 1 then ((steepleref02_Times.f k x1 (⟨x10, x11⟩ : S48)).bind fun r1 => steepleref02_Product.l8 k x0 (wrap64 (x1 + 1)) x2 x3 x4 x5 x6 x7 x8 x9 r1.f0 r1.f1) else steepleref02_Product.l8 k x0 (wrap64 (x1 + 1)) x2 x3 x4 x5 x6 x7 x8 x9 x10 x11) else none) else (steepleref02_Add.f k (⟨x8, x9⟩ : S48) (⟨x10, x11⟩ : S48)).bind fun r2 => steepleref02_Product.l3 k (wrap64 (x0 + 1)) x2 x3 x4 x5 x6 x7 r2.f0 r2.f1
end
def steepleref02_Product.f (k : Nat) (a0 : S48) (a1 : S48) : Option S48 := steepleref02_Product.l3 k 0 a0.f0 a0.f1 a1.f0 a1.f1 0 0 0 0
def steepleref02_Product.sig (k : Nat) : Sig E.toTys := ⟨[.st 4, .st 4], [(false, .st 4)], none, fun x => f k x.1 x.2.1⟩
noncomputable def steepleref02_Product.body : Code := Tryz.f50.body.getD .skip
def steepleref02_Product.calls (k : Nat) : List (Nat × Sig E.toTys) := [(69, steepleref02_Has.sig k), (70, steepleref02_Times.sig k), (49, steepleref02_Add.sig k)]
def steepleref02_Product.cuts : List (Cut E (RT E.toTys [(false, .st 4)])) := [⟨true, 3, ⟨cat (ds 2) (cat [.one (.ptr 0 0), .one (.ptr 1 0), .one (.ptr 2 0), .one (.ptr 3 0), .one (.val (.int .i64))] (ds 28)), [.var [.val (.int .u64), .val (.int .u64)], .var [.val (.int .u64), .val (.int .u64)], .var [.val (.int .u64), .val (.int .u64)], .var [.val (.int .u64), .val (.int .u64)]], false⟩, fun k x => steepleref02_Product.l3 k x.1.1 x.2.1.1 x.2.1.2.1 x.2.2.1.1 x.2.2.1.2.1 x.2.2.2.1.1 x.2.2.2.1.2.1 x.2.2.2.2.1.1 x.2.2.2.2.1.2.1⟩,
  ⟨true, 8, ⟨cat (ds 2) (cat [.one (.ptr 0 0), .one (.ptr 1 0), .one (.ptr 2 0), .one (.ptr 3 0), .one (.val (.int .i64)), .one (.ptr 4 0), .one (.val (.int .i64))] (ds 26)), [.var [.val (.int .u64), .val (.int .u64)], .var [.val (.int .u64), .val (.int .u64)], .var [.val (.int .u64), .val (.int .u64)], .var [.val (.int .u64), .val (.int .u64)], .var [.val (.int .u64), .val (.int .u64)]], false⟩, fun k x => steepleref02_Product.l8 k x.1.1 x.1.2.1 x.2.1.1 x.2.1.2.1 x.2.2.1.1 x.2.2.1.2.1 x.2.2.2.1.1 x.2.2.2.1.2.1 x.2.2.2.2.1.1 x.2.2.2.2.1.2.1 x.2.2.2.2.2.1.1 x.2.2.2.2.2.1.2.1⟩]
theorem steepleref02_Product.ok (k : Nat) : Okf (XR E) Tryz.prog 50 (steepleref02_Product.sig k) := ⟨fn_ok (C := fun k => tab.ctx fun f => lk f (steepleref02_Product.calls k)) (fun k => tie _) k (fun j hj => calls_ok (kc (steepleref02_Has.ok j) (kc (steepleref02_Times.ok j) (kc (steepleref02_Add.ok j) (kn))))) 400 Tryz.func50 (body := steepleref02_Product.body) (res := [.cell 4 48]) rfl (by kernel_rfl) steepleref02_Product.cuts (kc ⟨by kernel_rfl, rfl, fun _ => rfl, fun _ _ => by kernel_rfl⟩ (kc ⟨by kernel_rfl, rfl, fun _ => rfl, fun _ _ => by kernel_rfl⟩ (kn))) (fun x => by kernel_rfl), _, Tryz.func50, by kernel_rfl, by kernel_rfl⟩
/-! ### steeple/steepleref05.Value: function 85 -/
def steepleref05_Value.l5 : Nat → Int → Int → Int → Int → Int → List S48 → Int → Int → Option S48
  | 0, _, _, _, _, _, _, _, _ => none
  | k + 1, x0, x1, x2, x3, x4, x5, x6, x7 => if x0 < (x5.length : Int) then (if 0 ≤ x0 then (if x0 < (x5.length : Int) then ((steepleref02_Add.f k (⟨x1, x2⟩ : S48) (rd48 x5 x0)).bind fun r1 => (steepleref02_Product.f k (⟨x6, x7⟩ : S48) r1).bind fun r2 => steepleref05_Value.l5 k (wrap64 (x0 + 1)) x1 x2 x3 x4 x5 r2.f0 r2.f1) else none) else none) else some (⟨x6, x7⟩ : S48)
def steepleref05_Value.f (k : Nat) (a0 : List S48) (a1 : Int) (a2 : S48) : Option S48 := (steepleref05_Points.f k a0 a1 (⟨0, 0⟩ : S48)).bind fun r0 => steepleref05_Value.l5 k 0 a2.f0 a2.f1 0 0 r0 0 1
def steepleref05_Value.sig (k : Nat) : Sig E.toTys := ⟨[.slice (.st 4), .int .i64, .st 4], [(false, .st 4)], none, fun x => f k x.1 x.2.1 x.2.2.1⟩
noncomputable def steepleref05_Value.body : Code := Tryz.f85.body.getD .skip
def steepleref05_Value.calls (k : Nat) : List (Nat × Sig E.toTys) := [(24, steepleref05_Points.sig k), (49, steepleref02_Add.sig k), (50, steepleref02_Product.sig k)]
def steepleref05_Value.cuts : List (Cut E (RT E.toTys [(false, .st 4)])) := [⟨true, 5, ⟨cat (ds 5) (cat [.one (.ptr 0 0), .one (.ptr 1 0)] (cat (ds 1) (cat [.one (.ref 2), .one (.ptr 3 0), .one (.val (.int .i64))] (ds 20)))), [.var [.val (.int .u64), .val (.int .u64)], .var [.val (.int .u64), .val (.int .u64)], .arr (.st 4), .var [.val (.int .u64), .val (.int .u64)]], false⟩, fun k x => steepleref05_Value.l5 k x.1.1 x.2.1.1 x.2.1.2.1 x.2.2.1.1 x.2.2.1.2.1 x.2.2.2.1 x.2.2.2.2.1.1 x.2.2.2.2.1.2.1⟩]
theorem steepleref05_Value.ok (k : Nat) : Okf (XR E) Tryz.prog 85 (steepleref05_Value.sig k) := ⟨fn_ok (C := fun k => tab.ctx fun f => lk f (steepleref05_Value.calls k)) (fun k => tie _) k (fun j hj => calls_ok (kc (steepleref05_Points.ok j) (kc (steepleref02_Add.ok j) (kc (steepleref02_Product.ok j) (kn))))) 400 Tryz.func85 (body := steepleref05_Value.body) (res := [.cell 6 48]) rfl (by kernel_rfl) steepleref05_Value.cuts (kc ⟨by kernel_rfl, rfl, fun _ => rfl, fun _ _ => by kernel_rfl⟩ (kn)) (fun x => by kernel_rfl), _, Tryz.func85, by kernel_rfl, by kernel_rfl⟩
/-! ### steeple/steepleref02.Inv: function 86 -/
def steepleref02_Inv.l9 : Nat → Int → Int → Int → Int → List Int → Int → Int → Int → Int → Option S48
  | 0, _, _, _, _, _, _, _, _, _ => none
  | k + 1, x0, x1, x2, x3, x4, x5, x6, x7, x8 => if 0 ≤ x0 then (if x0 < (x4.length : Int) then (if x1 < rdI x4 x0 then ((steepleref02_Product.f k (⟨x7, x8⟩ : S48) (⟨x7, x8⟩ : S48)).bind fun r1 => (steepleref02_Product.f k (⟨x5, x6⟩ : S48) r1).bind fun r2 => steepleref02_Inv.l9 k x0 (wrap64 (x1 + 1)) x2 x3 x4 r2.f0 r2.f1 r1.f0 r1.f1) else some (⟨x5, x6⟩ : S48)) else none) else none
def steepleref02_Inv.f (k : Nat) (a0 : Int) (a1 : S48) : Option S48 := (steepleref01_Of.f k a0 a1).bind fun r0 => if (!r0) = true then some (⟨0, 0⟩ : S48) else if a0 = 0 then some a1 else steepleref02_Inv.l9 k a0 1 0 0 [1, 2, 4, 8, 16, 32, 64, 128] 0 1 a1.f0 a1.f1
def steepleref02_Inv.sig (k : Nat) : Sig E.toTys := ⟨[.int .i64, .st 4], [(false, .st 4)], none, fun x => f k x.1 x.2.1⟩
noncomputable def steepleref02_Inv.body : Code := Tryz.f86.body.getD .skip
def steepleref02_Inv.calls (k : Nat) : List (Nat × Sig E.toTys) := [(47, steepleref01_Of.sig k), (50, steepleref02_Product.sig k)]
def steepleref02_Inv.cuts : List (Cut E (RT E.toTys [(false, .st 4)])) := [⟨true, 9, ⟨cat [.one (.val (.int .i64))] (cat (ds 3) (cat [.one (.ptr 0 0), .one (.ref 1), .one (.ptr 2 0), .one (.ptr 3 0), .one (.val (.int .i64))] (ds 26))), [.var [.val (.int .u64), .val (.int .u64)], .arr (.int .i64), .var [.val (.int .u64), .val (.int .u64)], .var [.val (.int .u64), .val (.int .u64)]], false⟩, fun k x => steepleref02_Inv.l9 k x.1.1 x.1.2.1 x.2.1.1 x.2.1.2.1 x.2.2.1 x.2.2.2.1.1 x.2.2.2.1.2.1 x.2.2.2.2.1.1 x.2.2.2.2.1.2.1⟩]
theorem steepleref02_Inv.ok (k : Nat) : Okf (XR E) Tryz.prog 86 (steepleref02_Inv.sig k) := ⟨fn_ok (C := fun k => tab.ctx fun f => lk f (steepleref02_Inv.calls k)) (fun k => tie _) k (fun j hj => calls_ok (kc (steepleref01_Of.ok j) (kc (steepleref02_Product.ok j) (kn)))) 400 Tryz.func86 (body := steepleref02_Inv.body) (res := [.cell 4 48]) rfl (by kernel_rfl) steepleref02_Inv.cuts (kc ⟨by kernel_rfl, rfl, fun _ => rfl, fun _ _ => by kernel_rfl⟩ (kn)) (fun x => by kernel_rfl), _, Tryz.func86, by kernel_rfl, by kernel_rfl⟩
/-! ### steeple/steepleref05.Norm: function 71 -/
def steepleref05_Norm.f (k : Nat) (a0 : Int) (a1 : List S48) (a2 : Int) (a3 : S48) : Option S48 := (steepleref05_Value.f k a1 a2 a3).bind fun r0 => if 0 ≤ a2 then (if a2 < (a1.length : Int) then ((steepleref05_Value.f k a1 a2 (rd48 a1 a2)).bind fun r1 => (steepleref02_Inv.f k a0 r1).bind fun r2 => (steepleref02_Product.f k r0 r2).bind fun r3 => some r3) else none) else none
def steepleref05_Norm.sig (k : Nat) : Sig E.toTys := ⟨[.int .i64, .slice (.st 4), .int .i64, .st 4], [(false, .st 4)], none, fun x => f k x.1 x.2.1 x.2.2.1 x.2.2.2.1⟩
noncomputable def steepleref05_Norm.body : Code := Tryz.f71.body.getD .skip
def steepleref05_Norm.calls (k : Nat) : List (Nat × Sig E.toTys) := [(85, steepleref05_Value.sig k), (86, steepleref02_Inv.sig k), (50, steepleref02_Product.sig k)]
def steepleref05_Norm.cuts : List (Cut E (RT E.toTys [(false, .st 4)])) := []
theorem steepleref05_Norm.ok (k : Nat) : Okf (XR E) Tryz.prog 71 (steepleref05_Norm.sig k) := ⟨fn_ok (C := fun k => tab.ctx fun f => lk f (steepleref05_Norm.calls k)) (fun k => tie _) k (fun j hj => calls_ok (kc (steepleref05_Value.ok j) (kc (steepleref02_Inv.ok j) (kc (steepleref02_Product.ok j) (kn))))) 400 Tryz.func71 (body := steepleref05_Norm.body) (res := [.cell 8 48]) rfl (by kernel_rfl) steepleref05_Norm.cuts (kn) (fun x => by kernel_rfl), _, Tryz.func71, by kernel_rfl, by kernel_rfl⟩
/-! ### steeple/steepleref06.Basis: function 51 -/
def steepleref06_Basis.l4 : Nat → Int → List S48 → Int → Int → Int → Int → Int → Int → Int → Int → Option S48
  | 0, _, _, _, _, _, _, _, _, _, _ => none
  | k + 1, x0, x1, x2, x3, x4, x5, x6, x7, x8, x9 => if x3 < (x1.length : Int) then (if Int.tmod x2 2 = 1 then ((steepleref05_Norm.f k x0 x1 x3 (⟨x4, x5⟩ : S48)).bind fun r0 => (steepleref02_Product.f k (⟨x8, x9⟩ : S48) r0).bind fun r1 => steepleref06_Basis.l4 k x0 x1 (wrap64 (Int.tdiv x2 2)) (wrap64 (x3 + 1)) x4 x5 x6 x7 r1.f0 r1.f1) else steepleref06_Basis.l4 k x0 x1 (wrap64 (Int.tdiv x2 2)) (wrap64 (x3 + 1)) x4 x5 x6 x7 x8 x9) else some (⟨x8, x9⟩ : S48)
def steepleref06_Basis.f (k : Nat) (a0 : Int) (a1 : List S48) (a2 : Int) (a3 : S48) : Option S48 := steepleref06_Basis.l4 k a0 a1 a2 0 a3.f0 a3.f1 0 0 0 1
def steepleref06_Basis.sig (k : Nat) : Sig E.toTys := ⟨[.int .i64, .slice (.st 4), .int .i64, .st 4], [(false, .st 4)], none, fun x => f k x.1 x.2.1 x.2.2.1 x.2.2.2.1⟩
noncomputable def steepleref06_Basis.body : Code := Tryz.f51.body.getD .skip
def steepleref06_Basis.calls (k : Nat) : List (Nat × Sig E.toTys) := [(71, steepleref05_Norm.sig k), (50, steepleref02_Product.sig k)]
def steepleref06_Basis.cuts : List (Cut E (RT E.toTys [(false, .st 4)])) := [⟨true, 4, ⟨cat [.one (.val (.int .i64)), .one (.val (.slice (.st 4)))] (cat (ds 5) (cat [.one (.ptr 0 0), .one (.ptr 1 0), .one (.ptr 2 0), .one (.val (.int .i64)), .one (.val (.int .i64))] (ds 21))), [.var [.val (.int .u64), .val (.int .u64)], .var [.val (.int .u64), .val (.int .u64)], .var [.val (.int .u64), .val (.int .u64)]], false⟩, fun k x => steepleref06_Basis.l4 k x.1.1 x.1.2.1 x.1.2.2.1 x.1.2.2.2.1 x.2.1.1 x.2.1.2.1 x.2.2.1.1 x.2.2.1.2.1 x.2.2.2.1.1 x.2.2.2.1.2.1⟩]
theorem steepleref06_Basis.ok (k : Nat) : Okf (XR E) Tryz.prog 51 (steepleref06_Basis.sig k) := ⟨fn_ok (C := fun k => tab.ctx fun f => lk f (steepleref06_Basis.calls k)) (fun k => tie _) k (fun j hj => calls_ok (kc (steepleref05_Norm.ok j) (kc (steepleref02_Product.ok j) (kn)))) 400 Tryz.func51 (body := steepleref06_Basis.body) (res := [.cell 8 48]) rfl (by kernel_rfl) steepleref06_Basis.cuts (kc ⟨by kernel_rfl, rfl, fun _ => rfl, fun _ _ => by kernel_rfl⟩ (kn)) (fun x => by kernel_rfl), _, Tryz.func51, by kernel_rfl, by kernel_rfl⟩
/-! ### steeple/steepleref06.Eval: function 25 -/
def steepleref06_Eval.l3 : Nat → Int → List S48 → List S48 → Int → Int → Int → Int → Int → Int → Int → Option S48
  | 0, _, _, _, _, _, _, _, _, _, _ => none
  | k + 1, x0, x1, x2, x3, x4, x5, x6, x7, x8, x9 => if x3 < (x2.length : Int) then (if 0 ≤ x3 then (if x3 < (x2.length : Int) then ((steepleref06_Basis.f k x0 x1 x3 (⟨x4, x5⟩ : S48)).bind fun r0 => (steepleref02_Product.f k (rd48 x2 x3) r0).bind fun r1 => (steepleref02_Add.f k (⟨x8, x9⟩ : S48) r1).bind fun r2 => steepleref06_Eval.l3 k x0 x1 x2 (wrap64 (x3 + 1)) x4 x5 x6 x7 r2.f0 r2.f1) else none) else none) else some (⟨x8, x9⟩ : S48)
def steepleref06_Eval.f (k : Nat) (a0 : Int) (a1 : List S48) (a2 : List S48) (a3 : S48) : Option S48 := steepleref06_Eval.l3 k a0 a1 a2 0 a3.f0 a3.f1 0 0 0 0
def steepleref06_Eval.sig (k : Nat) : Sig E.toTys := ⟨[.int .i64, .slice (.st 4), .slice (.st 4), .st 4], [(false, .st 4)], none, fun x => f k x.1 x.2.1 x.2.2.1 x.2.2.2.1⟩
noncomputable def steepleref06_Eval.body : Code := Tryz.f25.body.getD .skip
def steepleref06_Eval.calls (k : Nat) : List (Nat × Sig E.toTys) := [(51, steepleref06_Basis.sig k), (50, steepleref02_Product.sig k), (49, steepleref02_Add.sig k)]
def steepleref06_Eval.cuts : List (Cut E (RT E.toTys [(false, .st 4)])) := [⟨true, 3, ⟨cat [.one (.val (.int .i64)), .one (.val (.slice (.st 4))), .one (.val (.slice (.st 4)))] (cat (ds 4) (cat [.one (.ptr 0 0), .one (.ptr 1 0), .one (.ptr 2 0), .one (.val (.int .i64))] (ds 19))), [.var [.val (.int .u64), .val (.int .u64)], .var [.val (.int .u64), .val (.int .u64)], .var [.val (.int .u64), .val (.int .u64)]], false⟩, fun k x => steepleref06_Eval.l3 k x.1.1 x.1.2.1 x.1.2.2.1 x.1.2.2.2.1 x.2.1.1 x.2.1.2.1 x.2.2.1.1 x.2.2.1.2.1 x.2.2.2.1.1 x.2.2.2.1.2.1⟩]
theorem steepleref06_Eval.ok (k : Nat) : Okf (XR E) Tryz.prog 25 (steepleref06_Eval.sig k) := ⟨fn_ok (C := fun k => tab.ctx fun f => lk f (steepleref06_Eval.calls k)) (fun k => tie _) k (fun j hj => calls_ok (kc (steepleref06_Basis.ok j) (kc (steepleref02_Product.ok j) (kc (steepleref02_Add.ok j) (kn))))) 400 Tryz.func25 (body := steepleref06_Eval.body) (res := [.cell 8 48]) rfl (by kernel_rfl) steepleref06_Eval.cuts (kc ⟨by kernel_rfl, rfl, fun _ => rfl, fun _ _ => by kernel_rfl⟩ (kn)) (fun x => by kernel_rfl), _, Tryz.func25, by kernel_rfl, by kernel_rfl⟩
/-! ### steeple/steepleref08.Word: function 12 -/
def steepleref08_Word.l6 : Nat → Int → List S48 → Int → List S48 → List S48 → List S48 → Option (List S48)
  | 0, _, _, _, _, _, _ => none
  | k + 1, x0, x1, x2, x3, x4, x5 => if x2 < (x4.length : Int) then (if 0 ≤ x2 then (if x2 < (x4.length : Int) then ((steepleref06_Eval.f k x0 x3 x1 (rd48 x4 x2)).bind fun r2 => if x5.length + [r2].length ≤ 140737488355328 / 16 then steepleref08_Word.l6 k x0 x1 (wrap64 (x2 + 1)) x3 x4 (x5 ++ [r2]) else none) else none) else none) else some x5
def steepleref08_Word.f (k : Nat) (a0 : Int) (a1 : Int) (a2 : Int) (a3 : List S48) : Option (List S48) := (steepleref08_Plain.f k (wrap64 (a1 + a2))).bind fun r0 => (steepleref05_Points.f k r0 (wrap64 (a1 + a2)) (⟨0, 0⟩ : S48)).bind fun r1 => steepleref08_Word.l6 k a0 a3 0 r0 r1 []
def steepleref08_Word.sig (k : Nat) : Sig E.toTys := ⟨[.int .i64, .int .i64, .int .i64, .slice (.st 4)], [(true, .slice (.st 4))], none, fun x => f k x.1 x.2.1 x.2.2.1 x.2.2.2.1⟩
noncomputable def steepleref08_Word.body : Code := Tryz.f12.body.getD .skip
def steepleref08_Word.calls (k : Nat) : List (Nat × Sig E.toTys) := [(23, steepleref08_Plain.sig k), (24, steepleref05_Points.sig k), (25, steepleref06_Eval.sig k)]
def steepleref08_Word.cuts : List (Cut E (RT E.toTys [(true, .slice (.st 4))])) := [⟨true, 6, ⟨cat [.one (.val (.int .i64))] (cat (ds 2) (cat [.one (.val (.slice (.st 4)))] (cat (ds 6) (cat [.one (.ref 2), .one (.ref 0), .one (.ref 1), .one (.val (.int .i64))] (ds 28))))), [.arr (.st 4), .arr (.st 4), .arr (.st 4)], false⟩, fun k x => steepleref08_Word.l6 k x.1.1 x.1.2.1 x.1.2.2.1 x.2.1 x.2.2.1 x.2.2.2.1⟩]
theorem steepleref08_Word.ok (k : Nat) : Okf (XR E) Tryz.prog 12 (steepleref08_Word.sig k) := ⟨fn_ok (C := fun k => tab.ctx fun f => lk f (steepleref08_Word.calls k)) (fun k => tie _) k (fun j hj => calls_ok (kc (steepleref08_Plain.ok j) (kc (steepleref05_Points.ok j) (kc (steepleref06_Eval.ok j) (kn))))) 400 Tryz.func12 (body := steepleref08_Word.body) (res := [.tmp 8]) rfl (by kernel_rfl) steepleref08_Word.cuts (kc ⟨by kernel_rfl, rfl, fun _ => rfl, fun _ _ => by kernel_rfl⟩ (kn)) (fun x => by kernel_rfl), _, Tryz.func12, by kernel_rfl, by kernel_rfl⟩
/-! ### (*steeple/code.Code).mayFill$1: function 53 -/
def code_Code_mayFill_1.f (k : Nat) (a0 : Int) (a1 : Option (Option S53)) : Option Bool := if a0 < 0 then some true else (match a1 with | none => none | some r0 => (code_Code_Long.f k r0).bind fun r1 => some (decide (a0 ≥ r1)))
def code_Code_mayFill_1.sig (k : Nat) : Sig E.toTys := ⟨[.int .i64, .ptr (.ptr (.st 3))], [(false, .bool)], none, fun x => f k x.1 x.2.1⟩
noncomputable def code_Code_mayFill_1.body : Code := Tryz.f53.body.getD .skip
def code_Code_mayFill_1.calls (k : Nat) : List (Nat × Sig E.toTys) := [(19, code_Code_Long.sig k)]
def code_Code_mayFill_1.cuts : List (Cut E (RT E.toTys [(false, .bool)])) := []
theorem code_Code_mayFill_1.ok (k : Nat) : Okf (XR E) Tryz.prog 53 (code_Code_mayFill_1.sig k) := ⟨fn_ok (C := fun k => tab.ctx fun f => lk f (code_Code_mayFill_1.calls k)) (fun k => tie _) k (fun j hj => calls_ok (kc (code_Code_Long.ok j) (kn))) 400 Tryz.func53 (body := code_Code_mayFill_1.body) (res := [.tmp 3]) rfl (by kernel_rfl) code_Code_mayFill_1.cuts (kn) (fun x => by kernel_rfl), _, Tryz.func53, by kernel_rfl, by kernel_rfl⟩
/-! ### slices.IndexFunc: function 72 -/
def slices_IndexFunc72_c53.l2 : Nat → List Int → Option S53 → Int → Int → Option Int
  | 0, _, _, _, _ => none
  | k + 1, x0, x1, x2, x3 => if x3 < x2 then (if 0 ≤ x3 then (if x3 < (x0.length : Int) then ((code_Code_mayFill_1.f k (rdI x0 x3) (some x1)).bind fun r0 => if r0 = true then some x3 else slices_IndexFunc72_c53.l2 k x0 x1 x2 (wrap64 (x3 + 1))) else none) else none) else some (-1)
def slices_IndexFunc72_c53.f (k : Nat) (a0 : List Int) (a1 : Option S53) : Option Int := slices_IndexFunc72_c53.l2 k a0 a1 (a0.length : Int) 0
def slices_IndexFunc72_c53.sig (k : Nat) : Sig E.toTys := ⟨[.slice (.int .i64), .ext 53 (.ptr (.st 3))], [(false, .int .i64)], none, fun x => f k x.1 x.2.1⟩
noncomputable def slices_IndexFunc72_c53.body : Code := Tryz.f72.body.getD .skip
def slices_IndexFunc72_c53.calls (k : Nat) : List (Nat × Sig E.toTys) := [(53, code_Code_mayFill_1.sig k)]
def slices_IndexFunc72_c53.cuts : List (Cut E (RT E.toTys [(false, .int .i64)])) := [⟨true, 2, ⟨cat [.one (.val (.slice (.int .i64))), .one (.val (.ext 53 (.ptr (.st 3))))] (cat (ds 5) (cat [.one (.val (.int .i64)), .one (.val (.int .i64))] (ds 10))), [], false⟩, fun k x => slices_IndexFunc72_c53.l2 k x.1.1 x.1.2.1 x.1.2.2.1 x.1.2.2.2.1⟩]
theorem slices_IndexFunc72_c53.ok (k : Nat) : Okf (XR E) Tryz.prog 72 (slices_IndexFunc72_c53.sig k) := ⟨fn_ok (C := fun k => tab.ctx fun f => lk f (slices_IndexFunc72_c53.calls k)) (fun k => tie _) k (fun j hj => calls_ok (kc (code_Code_mayFill_1.ok j) (kn))) 400 Tryz.func72 (body := slices_IndexFunc72_c53.body) (res := [.tmp 4]) rfl (by kernel_rfl) slices_IndexFunc72_c53.cuts (kc ⟨by kernel_rfl, rfl, fun _ => rfl, fun _ _ => by kernel_rfl⟩ (kn)) (fun x => by kernel_rfl), _, Tryz.func72, by kernel_rfl, by kernel_rfl⟩
/-! ### slices.ContainsFunc: function 52 -/
def slices_ContainsFunc52_c53.f (k : Nat) (a0 : List Int) (a1 : Option S53) : Option Bool := (slices_IndexFunc72_c53.f k a0 a1).bind fun r0 => some (decide (r0 ≥ 0))
def slices_ContainsFunc52_c53.sig (k : Nat) : Sig E.toTys := ⟨[.slice (.int .i64), .ext 53 (.ptr (.st 3))], [(false, .bool)], none, fun x => f k x.1 x.2.1⟩
noncomputable def slices_ContainsFunc52_c53.body : Code := Tryz.f52.body.getD .skip
def slices_ContainsFunc52_c53.calls (k : Nat) : List (Nat × Sig E.toTys) := [(72, slices_IndexFunc72_c53.sig k)]
def slices_ContainsFunc52_c53.cuts : List (Cut E (RT E.toTys [(false, .bool)])) := []
theorem slices_ContainsFunc52_c53.ok (k : Nat) : Okf (XR E) Tryz.prog 52 (slices_ContainsFunc52_c53.sig k) := ⟨fn_ok (C := fun k => tab.ctx fun f => lk f (slices_ContainsFunc52_c53.calls k)) (fun k => tie _) k (fun j hj => calls_ok (kc (slices_IndexFunc72_c53.ok j) (kn))) 400 Tryz.func52 (body := slices_ContainsFunc52_c53.body) (res := [.tmp 4]) rfl (by kernel_rfl) slices_ContainsFunc52_c53.cuts (kn) (fun x => by kernel_rfl), _, Tryz.func52, by kernel_rfl, by kernel_rfl⟩
/-! ### slices.Index: function 73 -/
def slices_Index73.l2 : Nat → List Int → Int → Int → Int → Option Int
  | 0, _, _, _, _ => none
  | k + 1, x0, x1, x2, x3 => if x3 < x2 then (if 0 ≤ x3 then (if x3 < (x0.length : Int) then (if x1 = rdI x0 x3 then some x3 else slices_Index73.l2 k x0 x1 x2 (wrap64 (x3 + 1))) else none) else none) else some (-1)
def slices_Index73.f (k : Nat) (a0 : List Int) (a1 : Int) : Option Int := slices_Index73.l2 k a0 a1 (a0.length : Int) 0
def slices_Index73.sig (k : Nat) : Sig E.toTys := ⟨[.slice (.int .i64), .int .i64], [(false, .int .i64)], none, fun x => f k x.1 x.2.1⟩
noncomputable def slices_Index73.body : Code := Tryz.f73.body.getD .skip
def slices_Index73.calls (k : Nat) : List (Nat × Sig E.toTys) := []
def slices_Index73.cuts : List (Cut E (RT E.toTys [(false, .int .i64)])) := [⟨true, 2, ⟨cat [.one (.val (.slice (.int .i64))), .one (.val (.int .i64))] (cat (ds 5) (cat [.one (.val (.int .i64)), .one (.val (.int .i64))] (ds 10))), [], false⟩, fun k x => slices_Index73.l2 k x.1.1 x.1.2.1 x.1.2.2.1 x.1.2.2.2.1⟩]
theorem slices_Index73.ok (k : Nat) : Okf (XR E) Tryz.prog 73 (slices_Index73.sig k) := ⟨fn_ok (C := fun k => tab.ctx fun f => lk f (slices_Index73.calls k)) (fun k => tie _) k (fun j hj => calls_ok (kn)) 400 Tryz.func73 (body := slices_Index73.body) (res := [.tmp 4]) rfl (by kernel_rfl) slices_Index73.cuts (kc ⟨by kernel_rfl, rfl, fun _ => rfl, fun _ _ => by kernel_rfl⟩ (kn)) (fun x => by kernel_rfl), _, Tryz.func73, by kernel_rfl, by kernel_rfl⟩
/-! ### slices.Contains: function 54 -/
def slices_Contains54.f (k : Nat) (a0 : List Int) (a1 : Int) : Option Bool := (slices_Index73.f k a0 a1).bind fun r0 => some (decide (r0 ≥ 0))
def slices_Contains54.sig (k : Nat) : Sig E.toTys := ⟨[.slice (.int .i64), .int .i64], [(false, .bool)], none, fun x => f k x.1 x.2.1⟩
noncomputable def slices_Contains54.body : Code := Tryz.f54.body.getD .skip
def slices_Contains54.calls (k : Nat) : List (Nat × Sig E.toTys) := [(73, slices_Index73.sig k)]
def slices_Contains54.cuts : List (Cut E (RT E.toTys [(false, .bool)])) := []
theorem slices_Contains54.ok (k : Nat) : Okf (XR E) Tryz.prog 54 (slices_Contains54.sig k) := ⟨fn_ok (C := fun k => tab.ctx fun f => lk f (slices_Contains54.calls k)) (fun k => tie _) k (fun j hj => calls_ok (kc (slices_Index73.ok j) (kn))) 400 Tryz.func54 (body := slices_Contains54.body) (res := [.tmp 4]) rfl (by kernel_rfl) slices_Contains54.cuts (kn) (fun x => by kernel_rfl), _, Tryz.func54, by kernel_rfl, by kernel_rfl⟩
/-! ### (*steeple/code.Code).mayFill: function 26 -/
def code_Code_mayFill.l8 : Nat → List Int → List S47 → List Int → Int → Int → Option S53 → Option Int
  | 0, _, _, _, _, _, _ => none
  | k + 1, x0, x1, x2, x3, x4, x5 => if x4 < x3 then (if 0 ≤ x4 then (if x4 < (x2.length : Int) then (if 0 ≤ x4 then (if x4 ≤ (x0.length : Int) then ((slices_Contains54.f k (x0.take (Int.toNat x4)) (rdI x2 x4)).bind fun r3 => if r3 = true then some 10 else code_Code_mayFill.l8 k x0 x1 x2 x3 (wrap64 (x4 + 1)) x5) else none) else none) else none) else none) else (code_Code_Size.f k x5).bind fun r4 => (code_Code_ask.f k x5 x1 r4).bind fun r5 => some r5
def code_Code_mayFill.f (k : Nat) (a0 : Option S53) (a1 : List Int) (a2 : List S47) : Option Int := (match a0 with | none => some 1 | some _ => (code_Code_Size.f k a0).bind fun r0 => if (a1.length : Int) = r0 then ((code_Code_Size.f k a0).bind fun r1 => if (a2.length : Int) = r1 then ((slices_ContainsFunc52_c53.f k a1 a0).bind fun r2 => if r2 = true then some 4 else code_Code_mayFill.l8 k a1 a2 a1 (a1.length : Int) 0 a0) else some 6) else some 6)
def code_Code_mayFill.sig (k : Nat) : Sig E.toTys := ⟨[.ptr (.st 3), .slice (.int .i64), .slice (.st 1)], [(false, .int .i64)], none, fun x => f k x.1 x.2.1 x.2.2.1⟩
noncomputable def code_Code_mayFill.body : Code := Tryz.f26.body.getD .skip
def code_Code_mayFill.calls (k : Nat) : List (Nat × Sig E.toTys) := [(10, code_Code_Size.sig k), (52, slices_ContainsFunc52_c53.sig k), (54, slices_Contains54.sig k), (18, code_Code_ask.sig k)]
def code_Code_mayFill.cuts : List (Cut E (RT E.toTys [(false, .int .i64)])) := [⟨true, 8, ⟨cat (ds 1) (cat [.one (.val (.slice (.int .i64))), .one (.val (.slice (.st 1))), .one (.ptr 0 0)] (cat (ds 25) (cat [.one (.val (.slice (.int .i64))), .one (.val (.int .i64)), .one (.val (.int .i64))] (ds 15)))), [.var [.val (.ptr (.st 3))]], false⟩, fun k x => code_Code_mayFill.l8 k x.1.1 x.1.2.1 x.1.2.2.1 x.1.2.2.2.1 x.1.2.2.2.2.1 x.2.1.1⟩]
theorem code_Code_mayFill.ok (k : Nat) : Okf (XR E) Tryz.prog 26 (code_Code_mayFill.sig k) := ⟨fn_ok (C := fun k => tab.ctx fun f => lk f (code_Code_mayFill.calls k)) (fun k => tie _) k (fun j hj => calls_ok (kc (code_Code_Size.ok j) (kc (slices_ContainsFunc52_c53.ok j) (kc (slices_Contains54.ok j) (kc (code_Code_ask.ok j) (kn)))))) 400 Tryz.func26 (body := code_Code_mayFill.body) (res := [.tmp 6]) rfl (by kernel_rfl) code_Code_mayFill.cuts (kc ⟨by kernel_rfl, rfl, fun _ => rfl, fun _ _ => by kernel_rfl⟩ (kn)) (fun x => by kernel_rfl), _, Tryz.func26, by kernel_rfl, by kernel_rfl⟩
/-! ### steeple/tower.One: function 28 -/
def tower_One.f (k : Nat) : Option S47 := some (⟨0, 1⟩ : S47)
def tower_One.sig (k : Nat) : Sig E.toTys := ⟨[], [(false, .st 1)], none, fun x => f k⟩
noncomputable def tower_One.body : Code := Tryz.f28.body.getD .skip
def tower_One.calls (k : Nat) : List (Nat × Sig E.toTys) := []
def tower_One.cuts : List (Cut E (RT E.toTys [(false, .st 1)])) := []
theorem tower_One.ok (k : Nat) : Okf (XR E) Tryz.prog 28 (tower_One.sig k) := ⟨fn_ok (C := fun k => tab.ctx fun f => lk f (tower_One.calls k)) (fun k => tie _) k (fun j hj => calls_ok (kn)) 400 Tryz.func28 (body := tower_One.body) (res := [.cell 0 47]) rfl (by kernel_rfl) tower_One.cuts (kn) (fun x => by kernel_rfl), _, Tryz.func28, by kernel_rfl, by kernel_rfl⟩
/-! ### steeple/novel.of$1: function 74 -/
def novel_of_1.f (k : Nat) (a0 : S47) (a1 : Option Int) : Option Bool := (match a1 with | none => none | some r0 => (octet_Of.f k r0 a0).bind fun r1 => some (!r1))
def novel_of_1.sig (k : Nat) : Sig E.toTys := ⟨[.st 1, .ptr (.int .i64)], [(false, .bool)], none, fun x => f k x.1 x.2.1⟩
noncomputable def novel_of_1.body : Code := Tryz.f74.body.getD .skip
def novel_of_1.calls (k : Nat) : List (Nat × Sig E.toTys) := [(41, octet_Of.sig k)]
def novel_of_1.cuts : List (Cut E (RT E.toTys [(false, .bool)])) := []
theorem novel_of_1.ok (k : Nat) : Okf (XR E) Tryz.prog 74 (novel_of_1.sig k) := ⟨fn_ok (C := fun k => tab.ctx fun f => lk f (novel_of_1.calls k)) (fun k => tie _) k (fun j hj => calls_ok (kc (octet_Of.ok j) (kn))) 400 Tryz.func74 (body := novel_of_1.body) (res := [.tmp 3]) rfl (by kernel_rfl) novel_of_1.cuts (kn) (fun x => by kernel_rfl), _, Tryz.func74, by kernel_rfl, by kernel_rfl⟩
/-! ### slices.IndexFunc: function 64 -/
def slices_IndexFunc64_c74.l2 : Nat → List S47 → Int → Int → Int → Option Int
  | 0, _, _, _, _ => none
  | k + 1, x0, x1, x2, x3 => if x3 < x2 then (if 0 ≤ x3 then (if x3 < (x0.length : Int) then ((novel_of_1.f k (rd47 x0 x3) (some x1)).bind fun r0 => if r0 = true then some x3 else slices_IndexFunc64_c74.l2 k x0 x1 x2 (wrap64 (x3 + 1))) else none) else none) else some (-1)
def slices_IndexFunc64_c74.f (k : Nat) (a0 : List S47) (a1 : Int) : Option Int := slices_IndexFunc64_c74.l2 k a0 a1 (a0.length : Int) 0
def slices_IndexFunc64_c74.sig (k : Nat) : Sig E.toTys := ⟨[.slice (.st 1), .ext 74 (.int .i64)], [(false, .int .i64)], none, fun x => f k x.1 x.2.1⟩
noncomputable def slices_IndexFunc64_c74.body : Code := Tryz.f64.body.getD .skip
def slices_IndexFunc64_c74.calls (k : Nat) : List (Nat × Sig E.toTys) := [(74, novel_of_1.sig k)]
def slices_IndexFunc64_c74.cuts : List (Cut E (RT E.toTys [(false, .int .i64)])) := [⟨true, 2, ⟨cat [.one (.val (.slice (.st 1))), .one (.val (.ext 74 (.int .i64)))] (cat (ds 5) (cat [.one (.val (.int .i64)), .one (.val (.int .i64))] (ds 10))), [], false⟩, fun k x => slices_IndexFunc64_c74.l2 k x.1.1 x.1.2.1 x.1.2.2.1 x.1.2.2.2.1⟩]
theorem slices_IndexFunc64_c74.ok (k : Nat) : Okf (XR E) Tryz.prog 64 (slices_IndexFunc64_c74.sig k) := ⟨fn_ok (C := fun k => tab.ctx fun f => lk f (slices_IndexFunc64_c74.calls k)) (fun k => tie _) k (fun j hj => calls_ok (kc (novel_of_1.ok j) (kn))) 400 Tryz.func64 (body := slices_IndexFunc64_c74.body) (res := [.tmp 4]) rfl (by kernel_rfl) slices_IndexFunc64_c74.cuts (kc ⟨by kernel_rfl, rfl, fun _ => rfl, fun _ _ => by kernel_rfl⟩ (kn)) (fun x => by kernel_rfl), _, Tryz.func64, by kernel_rfl, by kernel_rfl⟩
/-! ### slices.ContainsFunc: function 39 -/
def slices_ContainsFunc39_c74.f (k : Nat) (a0 : List S47) (a1 : Int) : Option Bool := (slices_IndexFunc64_c74.f k a0 a1).bind fun r0 => some (decide (r0 ≥ 0))
def slices_ContainsFunc39_c74.sig (k : Nat) : Sig E.toTys := ⟨[.slice (.st 1), .ext 74 (.int .i64)], [(false, .bool)], none, fun x => f k x.1 x.2.1⟩
noncomputable def slices_ContainsFunc39_c74.body : Code := Tryz.f39.body.getD .skip
def slices_ContainsFunc39_c74.calls (k : Nat) : List (Nat × Sig E.toTys) := [(64, slices_IndexFunc64_c74.sig k)]
def slices_ContainsFunc39_c74.cuts : List (Cut E (RT E.toTys [(false, .bool)])) := []
theorem slices_ContainsFunc39_c74.ok (k : Nat) : Okf (XR E) Tryz.prog 39 (slices_ContainsFunc39_c74.sig k) := ⟨fn_ok (C := fun k => tab.ctx fun f => lk f (slices_ContainsFunc39_c74.calls k)) (fun k => tie _) k (fun j hj => calls_ok (kc (slices_IndexFunc64_c74.ok j) (kn))) 400 Tryz.func39 (body := slices_ContainsFunc39_c74.body) (res := [.tmp 4]) rfl (by kernel_rfl) slices_ContainsFunc39_c74.cuts (kn) (fun x => by kernel_rfl), _, Tryz.func39, by kernel_rfl, by kernel_rfl⟩
/-! ### steeple/novel.of: function 56 -/
def novel_of.f (k : Nat) (a0 : Int) (a1 : List S47) : Option Bool := (slices_ContainsFunc39_c74.f k a1 a0).bind fun r0 => some (!r0)
def novel_of.sig (k : Nat) : Sig E.toTys := ⟨[.int .i64, .slice (.st 1)], [(false, .bool)], none, fun x => f k x.1 x.2.1⟩
noncomputable def novel_of.body : Code := Tryz.f56.body.getD .skip
def novel_of.calls (k : Nat) : List (Nat × Sig E.toTys) := [(39, slices_ContainsFunc39_c74.sig k)]
def novel_of.cuts : List (Cut E (RT E.toTys [(false, .bool)])) := []
theorem novel_of.ok (k : Nat) : Okf (XR E) Tryz.prog 56 (novel_of.sig k) := ⟨fn_ok (C := fun k => tab.ctx fun f => lk f (novel_of.calls k)) (fun k => tie _) k (fun j hj => calls_ok (kc (slices_ContainsFunc39_c74.ok j) (kn))) 400 Tryz.func56 (body := novel_of.body) (res := [.tmp 4]) rfl (by kernel_rfl) novel_of.cuts (kn) (fun x => by kernel_rfl), _, Tryz.func56, by kernel_rfl, by kernel_rfl⟩
/-! ### steeple/novel.At: function 31 -/
def novel_At.l5 : Nat → Int → List S47 → Int → Int → Int → Int → Int → Int → Int → Option S47
  | 0, _, _, _, _, _, _, _, _, _ => none
  | k + 1, x0, x1, x2, x3, x4, x5, x6, x7, x8 => if x2 ≥ 0 then ((tower_Mul.f k x0 (⟨x7, x8⟩ : S47) (⟨x3, x4⟩ : S47)).bind fun r2 => if 0 ≤ x2 then (if x2 < (x1.length : Int) then ((tower_Add.f k r2 (rd47 x1 x2)).bind fun r3 => novel_At.l5 k x0 x1 (wrap64 (x2 - 1)) x3 x4 x5 x6 r3.f0 r3.f1) else none) else none) else some (⟨x7, x8⟩ : S47)
def novel_At.f (k : Nat) (a0 : Int) (a1 : List S47) (a2 : S47) : Option S47 := (octet_Of.f k a0 a2).bind fun r0 => if (!r0) = true then some (⟨0, 0⟩ : S47) else (novel_of.f k a0 a1).bind fun r1 => if (!r1) = true then some (⟨0, 0⟩ : S47) else novel_At.l5 k a0 a1 (wrap64 ((a1.length : Int) - 1)) a2.f0 a2.f1 0 0 0 0
def novel_At.sig (k : Nat) : Sig E.toTys := ⟨[.int .i64, .slice (.st 1), .st 1], [(false, .st 1)], none, fun x => f k x.1 x.2.1 x.2.2.1⟩
noncomputable def novel_At.body : Code := Tryz.f31.body.getD .skip
def novel_At.calls (k : Nat) : List (Nat × Sig E.toTys) := [(41, octet_Of.sig k), (56, novel_of.sig k), (33, tower_Mul.sig k), (30, tower_Add.sig k)]
def novel_At.cuts : List (Cut E (RT E.toTys [(false, .st 1)])) := [⟨true, 5, ⟨cat [.one (.val (.int .i64)), .one (.val (.slice (.st 1)))] (cat (ds 3) (cat [.one (.ptr 0 0), .one (.ptr 1 0), .one (.ptr 2 0), .one (.val (.int .i64))] (ds 28))), [.var [.val (.int .u64), .val (.int .u64)], .var [.val (.int .u64), .val (.int .u64)], .var [.val (.int .u64), .val (.int .u64)]], false⟩, fun k x => novel_At.l5 k x.1.1 x.1.2.1 x.1.2.2.1 x.2.1.1 x.2.1.2.1 x.2.2.1.1 x.2.2.1.2.1 x.2.2.2.1.1 x.2.2.2.1.2.1⟩]
theorem novel_At.ok (k : Nat) : Okf (XR E) Tryz.prog 31 (novel_At.sig k) := ⟨fn_ok (C := fun k => tab.ctx fun f => lk f (novel_At.calls k)) (fun k => tie _) k (fun j hj => calls_ok (kc (octet_Of.ok j) (kc (novel_of.ok j) (kc (tower_Mul.ok j) (kc (tower_Add.ok j) (kn)))))) 400 Tryz.func31 (body := novel_At.body) (res := [.cell 6 47]) rfl (by kernel_rfl) novel_At.cuts (kc ⟨by kernel_rfl, rfl, fun _ => rfl, fun _ _ => by kernel_rfl⟩ (kn)) (fun x => by kernel_rfl), _, Tryz.func31, by kernel_rfl, by kernel_rfl⟩
/-! ### steeple/tower.Div: function 32 -/
def tower_Div.f (k : Nat) (a0 : Int) (a1 : S47) (a2 : S47) : Option S47 := (tower_Inv.f k a0 a2).bind fun r0 => (tower_Mul.f k a0 a1 r0).bind fun r1 => some r1
def tower_Div.sig (k : Nat) : Sig E.toTys := ⟨[.int .i64, .st 1, .st 1], [(false, .st 1)], none, fun x => f k x.1 x.2.1 x.2.2.1⟩
noncomputable def tower_Div.body : Code := Tryz.f32.body.getD .skip
def tower_Div.calls (k : Nat) : List (Nat × Sig E.toTys) := [(57, tower_Inv.sig k), (33, tower_Mul.sig k)]
def tower_Div.cuts : List (Cut E (RT E.toTys [(false, .st 1)])) := []
theorem tower_Div.ok (k : Nat) : Okf (XR E) Tryz.prog 32 (tower_Div.sig k) := ⟨fn_ok (C := fun k => tab.ctx fun f => lk f (tower_Div.calls k)) (fun k => tie _) k (fun j hj => calls_ok (kc (tower_Inv.ok j) (kc (tower_Mul.ok j) (kn)))) 400 Tryz.func32 (body := tower_Div.body) (res := [.cell 6 47]) rfl (by kernel_rfl) tower_Div.cuts (kn) (fun x => by kernel_rfl), _, Tryz.func32, by kernel_rfl, by kernel_rfl⟩
/-! ### steeple/novel.ask: function 60 -/
def novel_ask.f (k : Nat) (a0 : Option S84) (a1 : List S47) : Option Int := (match a0 with | none => some 1 | some _ => (linpoly_Space_Dim.f k a0).bind fun r0 => if 0 ≤ r0 then (if (a1.length : Int) > shl .i64 1 r0 then some 6 else (linpoly_Space_Level.f k a0).bind fun r1 => (novel_of.f k r1 a1).bind fun r2 => if (!r2) = true then some 5 else some 0) else none)
def novel_ask.sig (k : Nat) : Sig E.toTys := ⟨[.ptr (.st 2), .slice (.st 1)], [(false, .int .i64)], none, fun x => f k x.1 x.2.1⟩
noncomputable def novel_ask.body : Code := Tryz.f60.body.getD .skip
def novel_ask.calls (k : Nat) : List (Nat × Sig E.toTys) := [(42, linpoly_Space_Dim.sig k), (46, linpoly_Space_Level.sig k), (56, novel_of.sig k)]
def novel_ask.cuts : List (Cut E (RT E.toTys [(false, .int .i64)])) := []
theorem novel_ask.ok (k : Nat) : Okf (XR E) Tryz.prog 60 (novel_ask.sig k) := ⟨fn_ok (C := fun k => tab.ctx fun f => lk f (novel_ask.calls k)) (fun k => tie _) k (fun j hj => calls_ok (kc (linpoly_Space_Dim.ok j) (kc (linpoly_Space_Level.ok j) (kc (novel_of.ok j) (kn))))) 400 Tryz.func60 (body := novel_ask.body) (res := [.tmp 4]) rfl (by kernel_rfl) novel_ask.cuts (kn) (fun x => by kernel_rfl), _, Tryz.func60, by kernel_rfl, by kernel_rfl⟩
/-! ### steeple/novel.wide: function 79 -/
def novel_wide.l2 : Nat → Int → Int → Option Int
  | 0, _, _ => none
  | k + 1, x0, x1 => if 0 ≤ x1 then (if shl .i64 1 x1 < x0 then novel_wide.l2 k x0 (wrap64 (x1 + 1)) else some x1) else none
def novel_wide.f (k : Nat) (a0 : Int) : Option Int := novel_wide.l2 k a0 0
def novel_wide.sig (k : Nat) : Sig E.toTys := ⟨[.int .i64], [(false, .int .i64)], none, fun x => f k x.1⟩
noncomputable def novel_wide.body : Code := Tryz.f79.body.getD .skip
def novel_wide.calls (k : Nat) : List (Nat × Sig E.toTys) := []
def novel_wide.cuts : List (Cut E (RT E.toTys [(false, .int .i64)])) := [⟨true, 2, ⟨cat [.one (.val (.int .i64))] (cat (ds 2) (cat [.one (.val (.int .i64))] (ds 7))), [], false⟩, fun k x => novel_wide.l2 k x.1.1 x.1.2.1⟩]
theorem novel_wide.ok (k : Nat) : Okf (XR E) Tryz.prog 79 (novel_wide.sig k) := ⟨fn_ok (C := fun k => tab.ctx fun f => lk f (novel_wide.calls k)) (fun k => tie _) k (fun j hj => calls_ok (kn)) 400 Tryz.func79 (body := novel_wide.body) (res := [.tmp 2]) rfl (by kernel_rfl) novel_wide.cuts (kc ⟨by kernel_rfl, rfl, fun _ => rfl, fun _ _ => by kernel_rfl⟩ (kn)) (fun x => by kernel_rfl), _, Tryz.func79, by kernel_rfl, by kernel_rfl⟩
/-! ### steeple/tower.Square: function 91 -/
def tower_Square.f (k : Nat) (a0 : Int) (a1 : S47) : Option S47 := (octet_Of.f k a0 a1).bind fun r0 => if (!r0) = true then some (⟨0, 0⟩ : S47) else if a0 ≤ 6 then ((tower_square.f k a0 a1.f1).bind fun r1 => some (⟨0, r1⟩ : S47)) else (tower_square.f k 6 a1.f0).bind fun r2 => (tower_mulX.f k 6 r2).bind fun r3 => (tower_square.f k 6 a1.f1).bind fun r4 => some (⟨r3, bits .xor .u64 r4 r2⟩ : S47)
def tower_Square.sig (k : Nat) : Sig E.toTys := ⟨[.int .i64, .st 1], [(false, .st 1)], none, fun x => f k x.1 x.2.1⟩
noncomputable def tower_Square.body : Code := Tryz.f91.body.getD .skip
def tower_Square.calls (k : Nat) : List (Nat × Sig E.toTys) := [(41, octet_Of.sig k), (76, tower_square.sig k), (59, tower_mulX.sig k)]
def tower_Square.cuts : List (Cut E (RT E.toTys [(false, .st 1)])) := []
theorem tower_Square.ok (k : Nat) : Okf (XR E) Tryz.prog 91 (tower_Square.sig k) := ⟨fn_ok (C := fun k => tab.ctx fun f => lk f (tower_Square.calls k)) (fun k => tie _) k (fun j hj => calls_ok (kc (octet_Of.ok j) (kc (tower_square.ok j) (kc (tower_mulX.ok j) (kn))))) 400 Tryz.func91 (body := tower_Square.body) (res := [.cell 4 47]) rfl (by kernel_rfl) tower_Square.cuts (kn) (fun x => by kernel_rfl), _, Tryz.func91, by kernel_rfl, by kernel_rfl⟩
/-! ### (*steeple/linpoly.Space).Coeffs: function 87 -/
mutual
def linpoly_Space_Coeffs.l5 : Nat → Option S84 → Int → Int → List S47 → Option (List S47)
  | 0, _, _, _, _ => none
  | k + 1, x0, x1, x2, x3 => if x2 < x1 then (if 0 ≤ wrap64 ((x3.length : Int) + 1) then (if wrap64 ((x3.length : Int) + 1) ≤ 140737488355328 / ((16 : Nat) : Int) then linpoly_Space_Coeffs.l9 k x0 x2 x1 x2 (x3.length : Int) 0 (List.replicate (Int.toNat (wrap64 ((x3.length : Int) + 1))) z47) x3 else none) else none) else some x3
def linpoly_Space_Coeffs.l9 : Nat → Option S84 → Int → Int → Int → Int → Int → List S47 → List S47 → Option (List S47)
  | 0, _, _, _, _, _, _, _, _ => none
  | k + 1, x0, x1, x2, x3, x4, x5, x6, x7 => if x5 < x4 then (if 0 ≤ x5 then (if x5 < (x7.length : Int) then (if 0 ≤ wrap64 (x5 + 1) then (if wrap64 (x5 + 1) < (x6.length : Int) then ((match x0 with | none => none | some r2 => (tower_Square.f k r2.f0 (rd47 x7 x5)).bind fun r3 => (tower_Add.f k (rd47 x6 (wrap64 (x5 + 1))) r3).bind fun r4 => if 0 ≤ wrap64 (x5 + 1) then (if wrap64 (x5 + 1) < (x6.length : Int) then (if 0 ≤ x5 then (if x5 < ((x6.set (Int.toNat (wrap64 (x5 + 1))) r4).length : Int) then ((match x0 with | none => none | some r5 => (match x0 with | none => none | some r6 => if 0 ≤ x1 then (if x1 < (r6.f2.length : Int) then ((tower_Mul.f k r5.f0 (rd47 x7 x5) (rd47 r6.f2 x1)).bind fun r7 => (tower_Add.f k (rd47 (x6.set (Int.toNat (wrap64 (x5 + 1))) r4) x5) r7).bind fun r8 => if 0 ≤ x5 then (if x5 < ((x6.set (Int.toNat (wrap64 (x5 + 1))) r4).length : Int) then linpoly_Space_Coeffs.l9 k x0 x1 x2 x3 x4 (wrap64 (x5 + 1)) ((x6.set (Int.toNat (wrap64 (x5 + 1))) r4).set (Int.toNat x5) r8) x7 else none) else none) else none) else none))) else none) else none) else none) else none)) else none) else none) else none) else none) else linpoly_Space_Coeffs.l5 k x0 x2 (wrap64 (x3 + 1)) x6
end
def linpoly_Space_Coeffs.f (k : Nat) (a0 : Option S84) (a1 : Int) : Option (List S47) := (match a0 with | none => some [] | some _ => if a1 < 0 then some [] else (match a0 with | none => none | some r0 => if a1 > (r0.f1.length : Int) then some [] else (tower_One.f k).bind fun r1 => linpoly_Space_Coeffs.l5 k a0 a1 0 [r1]))
def linpoly_Space_Coeffs.sig (k : Nat) : Sig E.toTys := ⟨[.ptr (.st 2), .int .i64], [(true, .slice (.st 1))], none, fun x => f k x.1 x.2.1⟩
noncomputable def linpoly_Space_Coeffs.body : Code := Tryz.f87.body.getD .skip
def linpoly_Space_Coeffs.calls (k : Nat) : List (Nat × Sig E.toTys) := [(28, tower_One.sig k), (91, tower_Square.sig k), (30, tower_Add.sig k), (33, tower_Mul.sig k)]
def linpoly_Space_Coeffs.cuts : List (Cut E (RT E.toTys [(true, .slice (.st 1))])) := [⟨true, 5, ⟨cat [.one (.val (.ptr (.st 2)))] (cat (ds 4) (cat [.one (.ref 0)] (cat (ds 21) (cat [.one (.val (.int .i64)), .one (.val (.int .i64))] (ds 54))))), [.arr (.st 1)], false⟩, fun k x => linpoly_Space_Coeffs.l5 k x.1.1 x.1.2.1 x.1.2.2.1 x.2.1⟩,
  ⟨true, 9, ⟨cat [.one (.val (.ptr (.st 2)))] (cat (ds 5) (cat [.one (.val (.int .i64)), .one (.ref 0)] (cat (ds 19) (cat [.one (.val (.int .i64)), .one (.val (.int .i64))] (cat (ds 6) (cat [.one (.ref 1), .one (.val (.int .i64)), .one (.val (.int .i64))] (ds 45))))))), [.arr (.st 1), .arr (.st 1)], false⟩, fun k x => linpoly_Space_Coeffs.l9 k x.1.1 x.1.2.1 x.1.2.2.1 x.1.2.2.2.1 x.1.2.2.2.2.1 x.1.2.2.2.2.2.1 x.2.1 x.2.2.1⟩]
theorem linpoly_Space_Coeffs.ok (k : Nat) : Okf (XR E) Tryz.prog 87 (linpoly_Space_Coeffs.sig k) := ⟨fn_ok (C := fun k => tab.ctx fun f => lk f (linpoly_Space_Coeffs.calls k)) (fun k => tie _) k (fun j hj => calls_ok (kc (tower_One.ok j) (kc (tower_Square.ok j) (kc (tower_Add.ok j) (kc (tower_Mul.ok j) (kn)))))) 400 Tryz.func87 (body := linpoly_Space_Coeffs.body) (res := [.tmp 4]) rfl (by kernel_rfl) linpoly_Space_Coeffs.cuts (kc ⟨by kernel_rfl, rfl, fun _ => rfl, fun _ _ => by kernel_rfl⟩ (kc ⟨by kernel_rfl, rfl, fun _ => rfl, fun _ _ => by kernel_rfl⟩ (kn))) (fun x => by kernel_rfl), _, Tryz.func87, by kernel_rfl, by kernel_rfl⟩
/-! ### (*steeple/linpoly.Space).Value: function 88 -/
def linpoly_Space_Value.j2 : Nat → Int → Int → Option S47
  | 0, _, _ => none
  | k + 1, _, _ => some (⟨0, 0⟩ : S47)
def linpoly_Space_Value.f (k : Nat) (a0 : Option S84) (a1 : Int) (a2 : S47) : Option S47 := (match a0 with | none => linpoly_Space_Value.j2 k 0 0 | some _ => if a1 < 0 then linpoly_Space_Value.j2 k 0 0 else (match a0 with | none => none | some r0 => if a1 > (r0.f1.length : Int) then linpoly_Space_Value.j2 k 0 0 else (match a0 with | none => none | some r1 => (octet_Of.f k r1.f0 a2).bind fun r2 => if (!r2) = true then linpoly_Space_Value.j2 k 0 0 else (linpoly_Space_value.f k a0 a1 a2).bind fun r3 => some r3)))
def linpoly_Space_Value.sig (k : Nat) : Sig E.toTys := ⟨[.ptr (.st 2), .int .i64, .st 1], [(false, .st 1)], none, fun x => f k x.1 x.2.1 x.2.2.1⟩
noncomputable def linpoly_Space_Value.body : Code := Tryz.f88.body.getD .skip
def linpoly_Space_Value.calls (k : Nat) : List (Nat × Sig E.toTys) := [(41, octet_Of.sig k), (83, linpoly_Space_value.sig k)]
def linpoly_Space_Value.cuts : List (Cut E (RT E.toTys [(false, .st 1)])) := [⟨false, 2, ⟨cat (ds 6) (cat [.one (.ptr 0 0)] (ds 29)), [.var [.val (.int .u64), .val (.int .u64)]], false⟩, fun k x => linpoly_Space_Value.j2 k x.2.1.1 x.2.1.2.1⟩]
theorem linpoly_Space_Value.ok (k : Nat) : Okf (XR E) Tryz.prog 88 (linpoly_Space_Value.sig k) := ⟨fn_ok (C := fun k => tab.ctx fun f => lk f (linpoly_Space_Value.calls k)) (fun k => tie _) k (fun j hj => calls_ok (kc (octet_Of.ok j) (kc (linpoly_Space_value.ok j) (kn)))) 400 Tryz.func88 (body := linpoly_Space_Value.body) (res := [.cell 6 47]) rfl (by kernel_rfl) linpoly_Space_Value.cuts (kc ⟨by kernel_rfl, rfl, fun _ => rfl, fun _ _ => by kernel_rfl⟩ (kn)) (fun x => by kernel_rfl), _, Tryz.func88, by kernel_rfl, by kernel_rfl⟩
/-! ### steeple/novel.norm: function 80 -/
def novel_norm.l5 : Nat → Option S84 → Int → Int → Int → Int → List S47 → List S47 → Option (List S47)
  | 0, _, _, _, _, _, _, _ => none
  | k + 1, x0, x1, x2, x3, x4, x5, x6 => if x2 < x1 then (if 0 ≤ x2 then (if x2 < (x6.length : Int) then (if 0 ≤ x2 then ((linpoly_Space_Level.f k x0).bind fun r5 => (tower_Mul.f k r5 (rd47 x6 x2) (⟨x3, x4⟩ : S47)).bind fun r6 => if 0 ≤ shl .i64 1 x2 then (if shl .i64 1 x2 < (x5.length : Int) then novel_norm.l5 k x0 x1 (wrap64 (x2 + 1)) x3 x4 (x5.set (Int.toNat (shl .i64 1 x2)) r6) x6 else none) else none) else none) else none) else none) else some x5
def novel_norm.f (k : Nat) (a0 : Option S84) (a1 : Int) : Option (List S47) := (linpoly_Space_Coeffs.f k a0 a1).bind fun r0 => (linpoly_Space_Level.f k a0).bind fun r1 => if 0 ≤ a1 then ((linpoly_Space_Point.f k a0 (shl .i64 1 a1)).bind fun r2 => (linpoly_Space_Value.f k a0 a1 r2).bind fun r3 => (tower_Inv.f k r1 r3).bind fun r4 => if 0 ≤ a1 then (if 0 ≤ wrap64 ((shl .i64 1 a1) + 1) then (if wrap64 ((shl .i64 1 a1) + 1) ≤ 140737488355328 / ((16 : Nat) : Int) then novel_norm.l5 k a0 (r0.length : Int) 0 r4.f0 r4.f1 (List.replicate (Int.toNat (wrap64 ((shl .i64 1 a1) + 1))) z47) r0 else none) else none) else none) else none
def novel_norm.sig (k : Nat) : Sig E.toTys := ⟨[.ptr (.st 2), .int .i64], [(true, .slice (.st 1))], none, fun x => f k x.1 x.2.1⟩
noncomputable def novel_norm.body : Code := Tryz.f80.body.getD .skip
def novel_norm.calls (k : Nat) : List (Nat × Sig E.toTys) := [(87, linpoly_Space_Coeffs.sig k), (46, linpoly_Space_Level.sig k), (29, linpoly_Space_Point.sig k), (88, linpoly_Space_Value.sig k), (57, tower_Inv.sig k), (33, tower_Mul.sig k)]
def novel_norm.cuts : List (Cut E (RT E.toTys [(true, .slice (.st 1))])) := [⟨true, 5, ⟨cat [.one (.val (.ptr (.st 2)))] (cat (ds 5) (cat [.one (.ptr 0 0), .one (.ref 1)] (cat (ds 19) (cat [.one (.ref 2), .one (.val (.int .i64)), .one (.val (.int .i64))] (ds 15))))), [.var [.val (.int .u64), .val (.int .u64)], .arr (.st 1), .arr (.st 1)], false⟩, fun k x => novel_norm.l5 k x.1.1 x.1.2.1 x.1.2.2.1 x.2.1.1 x.2.1.2.1 x.2.2.1 x.2.2.2.1⟩]
theorem novel_norm.ok (k : Nat) : Okf (XR E) Tryz.prog 80 (novel_norm.sig k) := ⟨fn_ok (C := fun k => tab.ctx fun f => lk f (novel_norm.calls k)) (fun k => tie _) k (fun j hj => calls_ok (kc (linpoly_Space_Coeffs.ok j) (kc (linpoly_Space_Level.ok j) (kc (linpoly_Space_Point.ok j) (kc (linpoly_Space_Value.ok j) (kc (tower_Inv.ok j) (kc (tower_Mul.ok j) (kn)))))))) 400 Tryz.func80 (body := novel_norm.body) (res := [.tmp 4]) rfl (by kernel_rfl) novel_norm.cuts (kc ⟨by kernel_rfl, rfl, fun _ => rfl, fun _ _ => by kernel_rfl⟩ (kn)) (fun x => by kernel_rfl), _, Tryz.func80, by kernel_rfl, by kernel_rfl⟩
/-! ### steeple/novel.from: function 61 -/
mutual
def novel_from.l9 : Nat → Option S84 → Int → Int → List S47 → List S47 → Int → Int → List S47 → Option (List S47)
  | 0, _, _, _, _, _, _, _, _ => none
  | k + 1, x0, x1, x2, x3, x4, x5, x6, x7 => if x2 ≥ x1 then ((linpoly_Space_Level.f k x0).bind fun r4 => if 0 ≤ x2 then (if x2 < (x3.length : Int) then ((tower_Mul.f k r4 (rd47 x3 x2) (⟨x5, x6⟩ : S47)).bind fun r5 => if 0 ≤ wrap64 (x2 - x1) then (if wrap64 (x2 - x1) < (x7.length : Int) then novel_from.l13 k x0 x1 x2 (x4.length : Int) 0 x3 x4 x5 x6 (x7.set (Int.toNat (wrap64 (x2 - x1))) r5) else none) else none) else none) else none) else if x1 = x1 then (if 0 ≤ x1 then (if x1 ≤ (x3.length : Int) then ((novel_from.f k x0 (x3.take (Int.toNat x1))).bind fun r6 => (novel_from.f k x0 x7).bind fun r7 => if r6.length + r7.length ≤ 140737488355328 / 16 then some (r6 ++ r7) else none) else none) else none) else none
def novel_from.l13 : Nat → Option S84 → Int → Int → Int → Int → List S47 → List S47 → Int → Int → List S47 → Option (List S47)
  | 0, _, _, _, _, _, _, _, _, _, _ => none
  | k + 1, x0, x1, x2, x3, x4, x5, x6, x7, x8, x9 => if x4 < x3 then (if 0 ≤ x4 then (if x4 < (x6.length : Int) then (if 0 ≤ wrap64 ((wrap64 (x2 - x1)) + x4) then (if wrap64 ((wrap64 (x2 - x1)) + x4) < (x5.length : Int) then ((linpoly_Space_Level.f k x0).bind fun r8 => if 0 ≤ wrap64 (x2 - x1) then (if wrap64 (x2 - x1) < (x9.length : Int) then ((tower_Mul.f k r8 (rd47 x9 (wrap64 (x2 - x1))) (rd47 x6 x4)).bind fun r9 => (tower_Add.f k (rd47 x5 (wrap64 ((wrap64 (x2 - x1)) + x4))) r9).bind fun r10 => if 0 ≤ wrap64 ((wrap64 (x2 - x1)) + x4) then (if wrap64 ((wrap64 (x2 - x1)) + x4) < (x5.length : Int) then novel_from.l13 k x0 x1 x2 x3 (wrap64 (x4 + 1)) (x5.set (Int.toNat (wrap64 ((wrap64 (x2 - x1)) + x4))) r10) x6 x7 x8 x9 else none) else none) else none) else none) else none) else none) else none) else none) else novel_from.l9 k x0 x1 (wrap64 (x2 - 1)) x5 x6 x7 x8 x9
def novel_from.f : Nat → Option S84 → List S47 → Option (List S47)
  | 0, _, _ => none
  | k + 1, a0, a1 => if (a1.length : Int) ≤ 1 then some a1 else (novel_wide.f k (a1.length : Int)).bind fun r0 => if 0 ≤ wrap64 (r0 - 1) then ((novel_norm.f k a0 (wrap64 (r0 - 1))).bind fun r1 => (linpoly_Space_Level.f k a0).bind fun r2 => if 0 ≤ shl .i64 1 (wrap64 (r0 - 1)) then (if shl .i64 1 (wrap64 (r0 - 1)) < (r1.length : Int) then ((tower_Inv.f k r2 (rd47 r1 (shl .i64 1 (wrap64 (r0 - 1))))).bind fun r3 => if 0 ≤ wrap64 ((a1.length : Int) - (shl .i64 1 (wrap64 (r0 - 1)))) then (if wrap64 ((a1.length : Int) - (shl .i64 1 (wrap64 (r0 - 1)))) ≤ 140737488355328 / ((16 : Nat) : Int) then novel_from.l9 k a0 (shl .i64 1 (wrap64 (r0 - 1))) (wrap64 ((a1.length : Int) - 1)) a1 r1 r3.f0 r3.f1 (List.replicate (Int.toNat (wrap64 ((a1.length : Int) - (shl .i64 1 (wrap64 (r0 - 1)))))) z47) else none) else none) else none) else none) else none
end
def novel_from.sig (k : Nat) : Sig E.toTys := ⟨[.ptr (.st 2), .slice (.st 1)], [(true, .slice (.st 1))], some 1001, fun x => f k x.1 x.2.1⟩
noncomputable def novel_from.body : Code := Tryz.f61.body.getD .skip
def novel_from.calls (k : Nat) : List (Nat × Sig E.toTys) := [(79, novel_wide.sig k), (80, novel_norm.sig k), (46, linpoly_Space_Level.sig k), (57, tower_Inv.sig k), (33, tower_Mul.sig k), (61, novel_from.sig k), (30, tower_Add.sig k)]
def novel_from.cuts : List (Cut E (RT E.toTys [(true, .slice (.st 1))])) := [⟨true, 9, ⟨cat [.one (.val (.ptr (.st 2))), .one (.ref 0)] (cat (ds 4) (cat [.one (.val (.int .i64)), .one (.ref 1), .one (.ptr 2 0), .one (.ref 3), .one (.val (.int .i64))] (ds 92))), [.arr (.st 1), .arr (.st 1), .var [.val (.int .u64), .val (.int .u64)], .arr (.st 1)], true⟩, fun k x => novel_from.l9 k x.1.1 x.1.2.1 x.1.2.2.1 x.2.1 x.2.2.1 x.2.2.2.1.1 x.2.2.2.1.2.1 x.2.2.2.2.1⟩,
  ⟨true, 13, ⟨cat [.one (.val (.ptr (.st 2))), .one (.ref 0)] (cat (ds 4) (cat [.one (.val (.int .i64)), .one (.ref 1), .one (.ptr 2 0), .one (.ref 3), .one (.val (.int .i64))] (cat (ds 48) (cat [.one (.ref 1), .one (.val (.int .i64)), .one (.val (.int .i64))] (ds 41))))), [.arr (.st 1), .arr (.st 1), .var [.val (.int .u64), .val (.int .u64)], .arr (.st 1)], true⟩, fun k x => novel_from.l13 k x.1.1 x.1.2.1 x.1.2.2.1 x.1.2.2.2.1 x.1.2.2.2.2.1 x.2.1 x.2.2.1 x.2.2.2.1.1 x.2.2.2.1.2.1 x.2.2.2.2.1⟩]
theorem novel_from.oks (k : Nat) : Okf (XR E) Tryz.prog 61 (novel_from.sig k) := by
  induction k using Nat.strongRecOn with
  | ind k ih =>
  cases k with
  | zero => exact ⟨ok0 fun _ => rfl, _, Tryz.func61, by kernel_rfl, by kernel_rfl⟩
  | succ k => exact ⟨fn_okUse (C := fun k => tab.ctx fun f => lk f (novel_from.calls k)) (fun k => tie _) k (fun j hj => calls_ok (kc (novel_wide.ok j) (kc (novel_norm.ok j) (kc (linpoly_Space_Level.ok j) (kc (tower_Inv.ok j) (kc (tower_Mul.ok j) (kc (ih j (Nat.lt_succ_of_le hj)) (kc (tower_Add.ok j) (kn))))))))) 400 1 (.slice (.st 1)) Tryz.func61 (body := novel_from.body) (res := [.tmp 4]) rfl (by kernel_rfl) novel_from.cuts (kc ⟨by kernel_rfl, rfl, fun _ => rfl, fun _ _ => by kernel_rfl⟩ (kc ⟨by kernel_rfl, rfl, fun _ => rfl, fun _ _ => by kernel_rfl⟩ (kn))) (fun x => by kernel_rfl), _, Tryz.func61, by kernel_rfl, by kernel_rfl⟩
theorem novel_from.ok (k : Nat) : Okf (XR E) Tryz.prog 61 (novel_from.sig k) := (novel_from.oks k)
/-! ### steeple/novel.From: function 35 -/
def novel_From.f (k : Nat) (a0 : Option S84) (a1 : List S47) : Option ((List S47) × Int) := (novel_ask.f k a0 a1).bind fun r0 => if r0 = 0 then ((slices_Clone44.f k a1).bind fun r1 => (novel_from.f k a0 r1).bind fun r2 => some (r2, 0)) else some ([], r0)
def novel_From.sig (k : Nat) : Sig E.toTys := ⟨[.ptr (.st 2), .slice (.st 1)], [(true, .slice (.st 1)), (false, .int .i64)], none, fun x => f k x.1 x.2.1⟩
noncomputable def novel_From.body : Code := Tryz.f35.body.getD .skip
def novel_From.calls (k : Nat) : List (Nat × Sig E.toTys) := [(60, novel_ask.sig k), (44, slices_Clone44.sig k), (61, novel_from.sig k)]
def novel_From.cuts : List (Cut E (RT E.toTys [(true, .slice (.st 1)), (false, .int .i64)])) := []
theorem novel_From.ok (k : Nat) : Okf (XR E) Tryz.prog 35 (novel_From.sig k) := ⟨fn_ok (C := fun k => tab.ctx fun f => lk f (novel_From.calls k)) (fun k => tie _) k (fun j hj => calls_ok (kc (novel_ask.ok j) (kc (slices_Clone44.ok j) (kc (novel_from.ok j) (kn))))) 400 Tryz.func35 (body := novel_From.body) (res := [.tmp 4, .tmp 5]) rfl (by kernel_rfl) novel_From.cuts (kn) (fun x => by kernel_rfl), _, Tryz.func35, by kernel_rfl, by kernel_rfl⟩
/-! ### steeple/novel.Times: function 34 -/
mutual
def novel_Times.j2 : Nat → Option (List S47)
  | 0 => none
  | k + 1 => some []
def novel_Times.l5 : Nat → Int → List S47 → List S47 → Int → Int → List S47 → Option (List S47)
  | 0, _, _, _, _, _, _ => none
  | k + 1, x0, x1, x2, x3, x4, x5 => if x4 < x3 then (if 0 ≤ x4 then (if x4 < (x2.length : Int) then novel_Times.l8 k x0 x1 x4 x2 x3 x4 x1 (x1.length : Int) 0 x5 (rd47 x2 x4).f0 (rd47 x2 x4).f1 else none) else none) else some x5
def novel_Times.l8 : Nat → Int → List S47 → Int → List S47 → Int → Int → List S47 → Int → Int → List S47 → Int → Int → Option (List S47)
  | 0, _, _, _, _, _, _, _, _, _, _, _, _ => none
  | k + 1, x0, x1, x2, x3, x4, x5, x6, x7, x8, x9, x10, x11 => if x8 < x7 then (if 0 ≤ x8 then (if x8 < (x6.length : Int) then (if 0 ≤ wrap64 (x2 + x8) then (if wrap64 (x2 + x8) < (x9.length : Int) then ((tower_Mul.f k x0 (⟨x10, x11⟩ : S47) (rd47 x6 x8)).bind fun r3 => (tower_Add.f k (rd47 x9 (wrap64 (x2 + x8))) r3).bind fun r4 => if 0 ≤ wrap64 (x2 + x8) then (if wrap64 (x2 + x8) < (x9.length : Int) then novel_Times.l8 k x0 x1 x2 x3 x4 x5 x6 x7 (wrap64 (x8 + 1)) (x9.set (Int.toNat (wrap64 (x2 + x8))) r4) x10 x11 else none) else none) else none) else none) else none) else none) else novel_Times.l5 k x0 x1 x3 x4 (wrap64 (x5 + 1)) x9
end
def novel_Times.f (k : Nat) (a0 : Int) (a1 : List S47) (a2 : List S47) : Option (List S47) := if (a1.length : Int) = 0 then novel_Times.j2 k else if (a2.length : Int) = 0 then novel_Times.j2 k else (octet_Wide.f k a0).bind fun r0 => if r0 = 0 then novel_Times.j2 k else (novel_of.f k a0 a1).bind fun r1 => if (!r1) = true then novel_Times.j2 k else (novel_of.f k a0 a2).bind fun r2 => if (!r2) = true then novel_Times.j2 k else if 0 ≤ wrap64 ((wrap64 ((a1.length : Int) + (a2.length : Int))) - 1) then (if wrap64 ((wrap64 ((a1.length : Int) + (a2.length : Int))) - 1) ≤ 140737488355328 / ((16 : Nat) : Int) then novel_Times.l5 k a0 a2 a1 (a1.length : Int) 0 (List.replicate (Int.toNat (wrap64 ((wrap64 ((a1.length : Int) + (a2.length : Int))) - 1))) z47) else none) else none
def novel_Times.sig (k : Nat) : Sig E.toTys := ⟨[.int .i64, .slice (.st 1), .slice (.st 1)], [(true, .slice (.st 1))], none, fun x => f k x.1 x.2.1 x.2.2.1⟩
noncomputable def novel_Times.body : Code := Tryz.f34.body.getD .skip
def novel_Times.calls (k : Nat) : List (Nat × Sig E.toTys) := [(37, octet_Wide.sig k), (56, novel_of.sig k), (33, tower_Mul.sig k), (30, tower_Add.sig k)]
def novel_Times.cuts : List (Cut E (RT E.toTys [(true, .slice (.st 1))])) := [⟨false, 2, ⟨ds 77, [], false⟩, fun k x => novel_Times.j2 k⟩,
  ⟨true, 5, ⟨cat [.one (.val (.int .i64))] (cat (ds 1) (cat [.one (.val (.slice (.st 1)))] (cat (ds 4) (cat [.one (.ref 0)] (cat (ds 36) (cat [.one (.val (.slice (.st 1))), .one (.val (.int .i64)), .one (.val (.int .i64))] (ds 30))))))), [.arr (.st 1)], false⟩, fun k x => novel_Times.l5 k x.1.1 x.1.2.1 x.1.2.2.1 x.1.2.2.2.1 x.1.2.2.2.2.1 x.2.1⟩,
  ⟨true, 8, ⟨cat [.one (.val (.int .i64))] (cat (ds 1) (cat [.one (.val (.slice (.st 1)))] (cat (ds 4) (cat [.one (.ref 0), .one (.val (.int .i64)), .one (.ptr 1 0)] (cat (ds 34) (cat [.one (.val (.slice (.st 1))), .one (.val (.int .i64)), .one (.val (.int .i64))] (cat (ds 4) (cat [.one (.val (.slice (.st 1))), .one (.val (.int .i64)), .one (.val (.int .i64))] (ds 23))))))))), [.arr (.st 1), .var [.val (.int .u64), .val (.int .u64)]], false⟩, fun k x => novel_Times.l8 k x.1.1 x.1.2.1 x.1.2.2.1 x.1.2.2.2.1 x.1.2.2.2.2.1 x.1.2.2.2.2.2.1 x.1.2.2.2.2.2.2.1 x.1.2.2.2.2.2.2.2.1 x.1.2.2.2.2.2.2.2.2.1 x.2.1 x.2.2.1.1 x.2.2.1.2.1⟩]
theorem novel_Times.ok (k : Nat) : Okf (XR E) Tryz.prog 34 (novel_Times.sig k) := ⟨fn_ok (C := fun k => tab.ctx fun f => lk f (novel_Times.calls k)) (fun k => tie _) k (fun j hj => calls_ok (kc (octet_Wide.ok j) (kc (novel_of.ok j) (kc (tower_Mul.ok j) (kc (tower_Add.ok j) (kn)))))) 400 Tryz.func34 (body := novel_Times.body) (res := [.tmp 6]) rfl (by kernel_rfl) novel_Times.cuts (kc ⟨by kernel_rfl, rfl, fun _ => rfl, fun _ _ => by kernel_rfl⟩ (kc ⟨by kernel_rfl, rfl, fun _ => rfl, fun _ _ => by kernel_rfl⟩ (kc ⟨by kernel_rfl, rfl, fun _ => rfl, fun _ _ => by kernel_rfl⟩ (kn)))) (fun x => by kernel_rfl), _, Tryz.func34, by kernel_rfl, by kernel_rfl⟩
end Go.Proofs.YtbapldgapbmdkaaGreat.B
namespace Go.Proofs.YtbapldgapbmdkaaGreat.B
open Go.Proofs.YtbapldgapbmdkaaGreat.V.B Go.RowKit
set_option linter.unusedVariables false
/-! ### (*steeple/code.Code).Fill: function 13 -/
mutual
def code_Code_Fill.l7 : Nat → Option S53 → List S47 → Int → List Int → Int → Int → List S47 → List S47 → Option ((List S47) × Int)
  | 0, _, _, _, _, _, _, _, _ => none
  | k + 1, x0, x1, x2, x3, x4, x5, x6, x7 => if x5 < x4 then (if 0 ≤ x5 then (if x5 < (x3.length : Int) then ((match x0 with | none => none | some r4 => (linpoly_Space_Point.f k r4.f0 (rdI x3 x5)).bind fun r5 => if 0 ≤ x5 then (if x5 < (x1.length : Int) then ((novel_At.f k x2 x6 r5).bind fun r6 => (tower_Add.f k (rd47 x1 x5) r6).bind fun r7 => (novel_At.f k x2 x7 r5).bind fun r8 => (tower_Div.f k x2 r7 r8).bind fun r9 => code_Code_Fill.l13 k x0 x1 x2 x3 x4 x5 (x7.length : Int) 0 x6 x7 r5.f0 r5.f1 r9.f0 r9.f1) else none) else none)) else none) else none) else (match x0 with | none => none | some r10 => (novel_From.f k r10.f0 x6).bind fun r11 => some (r11.1, r11.2))
def code_Code_Fill.l13 : Nat → Option S53 → List S47 → Int → List Int → Int → Int → Int → Int → List S47 → List S47 → Int → Int → Int → Int → Option ((List S47) × Int)
  | 0, _, _, _, _, _, _, _, _, _, _, _, _, _, _ => none
  | k + 1, x0, x1, x2, x3, x4, x5, x6, x7, x8, x9, x10, x11, x12, x13 => if x7 < x6 then (if 0 ≤ x7 then (if x7 < (x9.length : Int) then (if 0 ≤ x7 then (if x7 < (x8.length : Int) then ((tower_Mul.f k x2 (⟨x12, x13⟩ : S47) (rd47 x9 x7)).bind fun r12 => (tower_Add.f k (rd47 x8 x7) r12).bind fun r13 => if 0 ≤ x7 then (if x7 < (x8.length : Int) then code_Code_Fill.l13 k x0 x1 x2 x3 x4 x5 x6 (wrap64 (x7 + 1)) (x8.set (Int.toNat x7) r13) x9 x10 x11 x12 x13 else none) else none) else none) else none) else none) else none) else (tower_One.f k).bind fun r14 => (novel_Times.f k x2 x9 [(⟨x10, x11⟩ : S47), r14]).bind fun r15 => code_Code_Fill.l7 k x0 x1 x2 x3 x4 (wrap64 (x5 + 1)) x8 r15
end
def code_Code_Fill.f (k : Nat) (a0 : Option S53) (a1 : List Int) (a2 : List S47) : Option ((List S47) × Int) := (code_Code_mayFill.f k a0 a1 a2).bind fun r0 => if r0 = 0 then ((code_Code_Level.f k a0).bind fun r1 => (code_Code_Size.f k a0).bind fun r2 => if 0 ≤ r2 then (if r2 ≤ 140737488355328 / ((16 : Nat) : Int) then ((tower_One.f k).bind fun r3 => code_Code_Fill.l7 k a0 a2 r1 a1 (a1.length : Int) 0 (List.replicate (Int.toNat r2) z47) [r3]) else none) else none) else some ([], r0)
def code_Code_Fill.sig (k : Nat) : Sig E.toTys := ⟨[.ptr (.st 3), .slice (.int .i64), .slice (.st 1)], [(true, .slice (.st 1)), (false, .int .i64)], none, fun x => f k x.1 x.2.1 x.2.2.1⟩
noncomputable def code_Code_Fill.body : Code := Tryz.f13.body.getD .skip
def code_Code_Fill.calls (k : Nat) : List (Nat × Sig E.toTys) := [(26, code_Code_mayFill.sig k), (27, code_Code_Level.sig k), (10, code_Code_Size.sig k), (28, tower_One.sig k), (29, linpoly_Space_Point.sig k), (31, novel_At.sig k), (30, tower_Add.sig k), (32, tower_Div.sig k), (35, novel_From.sig k), (33, tower_Mul.sig k), (34, novel_Times.sig k)]
def code_Code_Fill.cuts : List (Cut E (RT E.toTys [(true, .slice (.st 1)), (false, .int .i64)])) := [⟨true, 7, ⟨cat [.one (.val (.ptr (.st 3)))] (cat (ds 1) (cat [.one (.val (.slice (.st 1)))] (cat (ds 6) (cat [.one (.val (.int .i64)), .one (.ref 0), .one (.ref 1)] (cat (ds 21) (cat [.one (.val (.slice (.int .i64))), .one (.val (.int .i64)), .one (.val (.int .i64))] (ds 61))))))), [.arr (.st 1), .arr (.st 1)], false⟩, fun k x => code_Code_Fill.l7 k x.1.1 x.1.2.1 x.1.2.2.1 x.1.2.2.2.1 x.1.2.2.2.2.1 x.1.2.2.2.2.2.1 x.2.1 x.2.2.1⟩,
  ⟨true, 13, ⟨cat [.one (.val (.ptr (.st 3)))] (cat (ds 1) (cat [.one (.val (.slice (.st 1)))] (cat (ds 6) (cat [.one (.val (.int .i64)), .one (.ref 0), .one (.ref 1)] (cat (ds 2) (cat [.one (.ptr 2 0)] (cat (ds 1) (cat [.one (.ptr 3 0)] (cat (ds 16) (cat [.one (.val (.slice (.int .i64))), .one (.val (.int .i64)), .one (.val (.int .i64))] (cat (ds 26) (cat [.one (.ref 1), .one (.val (.int .i64)), .one (.val (.int .i64))] (ds 32))))))))))))), [.arr (.st 1), .arr (.st 1), .var [.val (.int .u64), .val (.int .u64)], .var [.val (.int .u64), .val (.int .u64)]], false⟩, fun k x => code_Code_Fill.l13 k x.1.1 x.1.2.1 x.1.2.2.1 x.1.2.2.2.1 x.1.2.2.2.2.1 x.1.2.2.2.2.2.1 x.1.2.2.2.2.2.2.1 x.1.2.2.2.2.2.2.2.1 x.2.1 x.2.2.1 x.2.2.2.1.1 x.2.2.2.1.2.1 x.2.2.2.2.1.1 x.2.2.2.2.1.2.1⟩]
theorem code_Code_Fill.ok (k : Nat) : Okf (XR E) Tryz.prog 13 (code_Code_Fill.sig k) := ⟨fn_ok (C := fun k => tab.ctx fun f => lk f (code_Code_Fill.calls k)) (fun k => tie _) k (fun j hj => calls_ok (kc (code_Code_mayFill.ok j) (kc (code_Code_Level.ok j) (kc (code_Code_Size.ok j) (kc (tower_One.ok j) (kc (linpoly_Space_Point.ok j) (kc (novel_At.ok j) (kc (tower_Add.ok j) (kc (tower_Div.ok j) (kc (novel_From.ok j) (kc (tower_Mul.ok j) (kc (novel_Times.ok j) (kn))))))))))))) 400 Tryz.func13 (body := code_Code_Fill.body) (res := [.tmp 6, .tmp 7]) rfl (by kernel_rfl) code_Code_Fill.cuts (kc ⟨by kernel_rfl, rfl, fun _ => rfl, fun _ _ => by kernel_rfl⟩ (kc ⟨by kernel_rfl, rfl, fun _ => rfl, fun _ _ => by kernel_rfl⟩ (kn))) (fun x => by kernel_rfl), _, Tryz.func13, by kernel_rfl, by kernel_rfl⟩
/-! ### steeple/code.Apart: function 15 -/
def code_Apart.l3 : Nat → List S47 → List S47 → Int → Int → Int → Option Int
  | 0, _, _, _, _, _ => none
  | k + 1, x0, x1, x2, x3, x4 => if x4 < x3 then (if 0 ≤ x4 then (if x4 < (x0.length : Int) then (if 0 ≤ x4 then (if x4 < (x1.length : Int) then (if (rd47 x0 x4).f0 = (rd47 x1 x4).f0 ∧ (rd47 x0 x4).f1 = (rd47 x1 x4).f1 then code_Apart.l3 k x0 x1 x2 x3 (wrap64 (x4 + 1)) else code_Apart.l3 k x0 x1 (wrap64 (x2 + 1)) x3 (wrap64 (x4 + 1))) else none) else none) else none) else none) else some x2
def code_Apart.f (k : Nat) (a0 : List S47) (a1 : List S47) : Option Int := code_Apart.l3 k a0 a1 (wrap64 ((if (a1.length : Int) > (a0.length : Int) then (a1.length : Int) else (a0.length : Int)) - (if (a1.length : Int) < (a0.length : Int) then (a1.length : Int) else (a0.length : Int)))) (if (a1.length : Int) < (a0.length : Int) then (a1.length : Int) else (a0.length : Int)) 0
def code_Apart.sig (k : Nat) : Sig E.toTys := ⟨[.slice (.st 1), .slice (.st 1)], [(false, .int .i64)], none, fun x => f k x.1 x.2.1⟩
noncomputable def code_Apart.body : Code := Tryz.f15.body.getD .skip
def code_Apart.calls (k : Nat) : List (Nat × Sig E.toTys) := []
def code_Apart.cuts : List (Cut E (RT E.toTys [(false, .int .i64)])) := [⟨true, 3, ⟨cat [.one (.val (.slice (.st 1))), .one (.val (.slice (.st 1)))] (cat (ds 3) (cat [.one (.val (.int .i64))] (cat (ds 16) (cat [.one (.val (.int .i64)), .one (.val (.int .i64))] (ds 15))))), [], false⟩, fun k x => code_Apart.l3 k x.1.1 x.1.2.1 x.1.2.2.1 x.1.2.2.2.1 x.1.2.2.2.2.1⟩]
theorem code_Apart.ok (k : Nat) : Okf (XR E) Tryz.prog 15 (code_Apart.sig k) := ⟨fn_ok (C := fun k => tab.ctx fun f => lk f (code_Apart.calls k)) (fun k => tie _) k (fun j hj => calls_ok (kn)) 400 Tryz.func15 (body := code_Apart.body) (res := [.tmp 4]) rfl (by kernel_rfl) code_Apart.cuts (kc ⟨by kernel_rfl, rfl, fun _ => rfl, fun _ _ => by kernel_rfl⟩ (kn)) (fun x => by kernel_rfl), _, Tryz.func15, by kernel_rfl, by kernel_rfl⟩
/-! ### steeple/steeplelaw08.CodeBack: function 3 -/
def steeplelaw08_CodeBack.l12 : Nat → List S47 → Option S53 → Int → Int → List S47 → List Int → Option Bool
  | 0, _, _, _, _, _, _ => none
  | k + 1, x0, x1, x2, x3, x4, x5 => (code_Code_Size.f k x1).bind fun r13 => if x3 < r13 then (if x5.length + [x3].length ≤ 140737488355328 / 8 then steeplelaw08_CodeBack.l12 k x0 x1 x2 (wrap64 (x3 + 1)) x4 (x5 ++ [x3]) else none) else (code_Code_Size.f k x1).bind fun r14 => if 0 ≤ r14 then (if r14 ≤ (x0.length : Int) then ((code_Code_Fill.f k x1 x5 (x0.take (Int.toNat r14))).bind fun r15 => (code_Code_Encode.f k x1 r15.1).bind fun r16 => (steeplelaw08_awake.f k).bind fun r17 => if r17 = true then (if x2 = 7 then (if (x4.length : Int) = 0 then (if r15.2 = 0 then (if r16.2 = 0 then ((code_Apart.f k r16.1 x0).bind fun r18 => some (decide (r18 > 0))) else some false) else some false) else some false) else some false) else some false) else none) else none
def steeplelaw08_CodeBack.f (k : Nat) (a0 : S23) (a1 : List S47) : Option Bool := (steeplelaw08_Shape_Made.f k a0).bind fun r0 => (match r0 with | none => (steeplelaw08_awake.f k).bind fun r1 => some r1 | some _ => if (a1.length : Int) > 40 then ((steeplelaw08_awake.f k).bind fun r2 => some r2) else (code_Code_Decode.f k r0 a1).bind fun r3 => (steeplelaw01_Ref.f k a1).bind fun r4 => (steepleref08_Two.f k (wrap64 (a0.f1 + a0.f2))).bind fun r5 => (steepleref08_May.f k a0.f0 r4 r5).bind fun r6 => if r6 = 0 then (if r3.2 = 0 then ((steeplelaw08_awake.f k).bind fun r7 => if r7 = true then ((code_Code_Size.f k r0).bind fun r8 => if (r3.1.length : Int) = r8 then ((steeplelaw01_Ref.f k r3.1).bind fun r9 => (steepleref08_Word.f k a0.f0 a0.f1 a0.f2 r9).bind fun r10 => (steeplelaw01_Same.f k a1 r10).bind fun r11 => some r11) else some false) else some false) else steeplelaw08_CodeBack.l12 k a1 r0 r3.2 0 r3.1 []) else (steeplelaw08_awake.f k).bind fun r12 => if r12 = true then (if r3.2 = r6 then some (decide ((r3.1.length : Int) = 0)) else some false) else some false)
def steeplelaw08_CodeBack.sig (k : Nat) : Sig E.toTys := ⟨[.st 0, .slice (.st 1)], [(false, .bool)], none, fun x => f k x.1 x.2.1⟩
noncomputable def steeplelaw08_CodeBack.body : Code := Tryz.f3.body.getD .skip
def steeplelaw08_CodeBack.calls (k : Nat) : List (Nat × Sig E.toTys) := [(4, steeplelaw08_Shape_Made.sig k), (5, steeplelaw08_awake.sig k), (6, code_Code_Decode.sig k), (8, steeplelaw01_Ref.sig k), (9, steepleref08_Two.sig k), (7, steepleref08_May.sig k), (10, code_Code_Size.sig k), (12, steepleref08_Word.sig k), (11, steeplelaw01_Same.sig k), (13, code_Code_Fill.sig k), (14, code_Code_Encode.sig k), (15, code_Apart.sig k)]
def steeplelaw08_CodeBack.cuts : List (Cut E (RT E.toTys [(false, .bool)])) := [⟨true, 12, ⟨cat (ds 1) (cat [.one (.val (.slice (.st 1)))] (cat (ds 3) (cat [.one (.val (.ptr (.st 3))), .one (.ref 0), .one (.val (.int .i64))] (cat (ds 1) (cat [.one (.ref 1), .one (.val (.int .i64))] (ds 117)))))), [.arr (.st 1), .arr (.int .i64)], false⟩, fun k x => steeplelaw08_CodeBack.l12 k x.1.1 x.1.2.1 x.1.2.2.1 x.1.2.2.2.1 x.2.1 x.2.2.1⟩]
theorem steeplelaw08_CodeBack.ok (k : Nat) : Okf (XR E) Tryz.prog 3 (steeplelaw08_CodeBack.sig k) := ⟨fn_ok (C := fun k => tab.ctx fun f => lk f (steeplelaw08_CodeBack.calls k)) (fun k => tie _) k (fun j hj => calls_ok (kc (steeplelaw08_Shape_Made.ok j) (kc (steeplelaw08_awake.ok j) (kc (code_Code_Decode.ok j) (kc (steeplelaw01_Ref.ok j) (kc (steepleref08_Two.ok j) (kc (steepleref08_May.ok j) (kc (code_Code_Size.ok j) (kc (steepleref08_Word.ok j) (kc (steeplelaw01_Same.ok j) (kc (code_Code_Fill.ok j) (kc (code_Code_Encode.ok j) (kc (code_Apart.ok j) (kn)))))))))))))) 400 Tryz.func3 (body := steeplelaw08_CodeBack.body) (res := [.tmp 4]) rfl (by kernel_rfl) steeplelaw08_CodeBack.cuts (kc ⟨by kernel_rfl, rfl, fun _ => rfl, fun _ _ => by kernel_rfl⟩ (kn)) (fun x => by kernel_rfl), _, Tryz.func3, by kernel_rfl, by kernel_rfl⟩
end Go.Proofs.YtbapldgapbmdkaaGreat.B

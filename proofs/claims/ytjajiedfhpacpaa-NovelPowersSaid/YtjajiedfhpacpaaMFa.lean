/- Own text: merged by pack2.py. -/
import Derived.Test.YtjajiedfhpacpaaProg
import Derived.Test.YtjajiedfhpacpaaMBa
import Derived.Test.YtjajiedfhpacpaaMBb
import Derived.Test.YtjajiedfhpacpaaMBc
set_option linter.unusedSimpArgs false
set_option linter.unusedVariables false
namespace Go.Proofs.Ytjajiedfhpacpaa.B
open Go.Proofs.Ytjajiedfhpacpaa.V.B Go.RowKit
set_option linter.unusedVariables false
structure S27 where
  f0 : Int
  f1 : Int
structure S24 where
  f0 : Int
  f1 : List S27
structure S29 where
  f0 : S24
  f1 : List S27
  f2 : S27
structure S80 where
  f0 : Int
  f1 : List S27
  f2 : List S27
  f3 : List S27
structure S38 where
  f0 : Int
  f1 : Int
def Es : Nat → Type
  | 0 => S27
  | 1 => S24
  | 2 => S29
  | 3 => S80
  | 4 => S38
  | _ + 5 => Unit
def Efs : Nat → List Ty
  | 0 => [.int .u64, .int .u64]
  | 1 => [.int .i64, .slice (.st 0)]
  | 2 => [.int .i64, .slice (.st 0), .slice (.st 0), .int .u64, .int .u64]
  | 3 => [.int .i64, .slice (.st 0), .slice (.st 0), .slice (.st 0)]
  | 4 => [.int .u64, .int .u64]
  | _ + 5 => []
def z27 : S27 := ⟨0, 0⟩
def z24 : S24 := ⟨0, []⟩
def z29 : S29 := ⟨z24, [], z27⟩
def z80 : S80 := ⟨0, [], [], []⟩
def z38 : S38 := ⟨0, 0⟩
def E : Env where
  S := Es
  fs := Efs
  z := fun n => match n with | 0 => z27 | 1 => z24 | 2 => z29 | 3 => z80 | 4 => z38 | _ + 5 => ()
  to := fun n => match n with | 0 => fun (x : S27) => (x.f0, x.f1, ()) | 1 => fun (x : S24) => (x.f0, x.f1, ()) | 2 => fun (x : S29) => (x.f0.f0, x.f0.f1, x.f1, x.f2.f0, x.f2.f1, ()) | 3 => fun (x : S80) => (x.f0, x.f1, x.f2, x.f3, ()) | 4 => fun (x : S38) => (x.f0, x.f1, ()) | _ + 5 => fun _ => ()
  of := fun n => match n with | 0 => fun x => (⟨x.1, x.2.1⟩ : S27) | 1 => fun x => (⟨x.1, x.2.1⟩ : S24) | 2 => fun x => (⟨(⟨x.1, x.2.1⟩ : S24), x.2.2.1, (⟨x.2.2.2.1, x.2.2.2.2.1⟩ : S27)⟩ : S29) | 3 => fun x => (⟨x.1, x.2.1, x.2.2.1, x.2.2.2.1⟩ : S80) | 4 => fun x => (⟨x.1, x.2.1⟩ : S38) | _ + 5 => fun _ => ()
  of_to := fun n => match n with | 0 => fun _ => rfl | 1 => fun _ => rfl | 2 => fun _ => rfl | 3 => fun _ => rfl | 4 => fun _ => rfl | _ + 5 => fun _ => rfl
  to_of := fun n => match n with | 0 => fun _ => rfl | 1 => fun _ => rfl | 2 => fun _ => rfl | 3 => fun _ => rfl | 4 => fun _ => rfl | _ + 5 => fun _ => rfl
theorem zl_ok : ∀ n, E.to n (E.z n) = zl E (E.fs n) := fun n => match n with | 0 => rfl | 1 => rfl | 2 => rfl | 3 => rfl | 4 => rfl | _ + 5 => rfl
def rd27 (xs : List S27) (i : Int) : S27 := xs.getD i.toNat z27
def rd24 (xs : List S24) (i : Int) : S24 := xs.getD i.toNat z24
def rd29 (xs : List S29) (i : Int) : S29 := xs.getD i.toNat z29
def rd80 (xs : List S80) (i : Int) : S80 := xs.getD i.toNat z80
def rd38 (xs : List S38) (i : Int) : S38 := xs.getD i.toNat z38
def rdI (xs : List Int) (i : Int) : Int := xs.getD i.toNat 0
def rdB (xs : List Bool) (i : Int) : Bool := xs.getD i.toNat false
def rdL {α : Type} (xs : List (List α)) (i : Int) : List α := xs.getD i.toNat []
def by256_793 : ByteArray := ⟨#[0, 1, 2, 2, 3, 3, 3, 3, 4, 4, 4, 4, 4, 4, 4, 4, 5, 5, 5, 5, 5, 5, 5, 5, 5, 5, 5, 5, 5, 5, 5, 5, 6, 6, 6, 6, 6, 6, 6, 6, 6, 6, 6, 6, 6, 6, 6, 6, 6, 6, 6, 6, 6, 6, 6, 6, 6, 6, 6, 6, 6, 6, 6, 6, 7, 7, 7, 7, 7, 7, 7, 7, 7, 7, 7, 7, 7, 7, 7, 7, 7, 7, 7, 7, 7, 7, 7, 7, 7, 7, 7, 7, 7, 7, 7, 7, 7, 7, 7, 7, 7, 7, 7, 7, 7, 7, 7, 7, 7, 7, 7, 7, 7, 7, 7, 7, 7, 7, 7, 7, 7, 7, 7, 7, 7, 7, 7, 7, 8, 8, 8, 8, 8, 8, 8, 8, 8, 8, 8, 8, 8, 8, 8, 8, 8, 8, 8, 8, 8, 8, 8, 8, 8, 8, 8, 8, 8, 8, 8, 8, 8, 8, 8, 8, 8, 8, 8, 8, 8, 8, 8, 8, 8, 8, 8, 8, 8, 8, 8, 8, 8, 8, 8, 8, 8, 8, 8, 8, 8, 8, 8, 8, 8, 8, 8, 8, 8, 8, 8, 8, 8, 8, 8, 8, 8, 8, 8, 8, 8, 8, 8, 8, 8, 8, 8, 8, 8, 8, 8, 8, 8, 8, 8, 8, 8, 8, 8, 8, 8, 8, 8, 8, 8, 8, 8, 8, 8, 8, 8, 8, 8, 8, 8, 8, 8, 8, 8, 8, 8, 8, 8, 8, 8, 8, 8, 8]⟩
def tab : Tab := ⟨[(3, .int .i64), (4, .bool), (5, .int .u8), (22, .slice (.st 0)), (24, .st 1), (25, .int .u64), (27, .st 0), (29, .st 2), (30, .ptr (.st 3)), (33, .int .i64), (36, .slice (.st 4)), (38, .st 4), (60, .int .u64), (74, .slice (.int .i64)), (80, .st 3), (96, .slice (.int .u64)), (116, .int .i64)], [(24, 0, 0, 3), (24, 1, 1, 22), (27, 0, 0, 25), (27, 1, 1, 25), (29, 0, 0, 24), (29, 1, 2, 22), (29, 2, 3, 27), (38, 0, 0, 25), (38, 1, 1, 25), (80, 0, 0, 3), (80, 1, 1, 22), (80, 2, 2, 22), (80, 3, 3, 22)], [(22, 16), (36, 16), (74, 8), (96, 8)], [(27, 2), (38, 2)], [9]⟩
theorem tab_ok : tab.chk E Try.prog = true := by kernel_rfl
theorem tie (calls : Nat → Option (Sig E.toTys)) : Tie (XR E) Try.prog (tab.ctx calls) := tie_of zl_ok tab_ok calls
end Go.Proofs.Ytjajiedfhpacpaa.B
namespace Go.Proofs.Ytjajiedfhpacpaa.B
open Go.Proofs.Ytjajiedfhpacpaa.V.B Go.RowKit
set_option linter.unusedVariables false
/-! ### steeple/octet.Wide: function 55 -/
def octet_Wide.f (k : Nat) (a0 : Int) : Option Int := if a0 < 0 then some 0 else if a0 > 7 then some 0 else if a0 ≤ 3 then some 1 else if 0 ≤ wrap64 (a0 - 3) then some (shl .i64 1 (wrap64 (a0 - 3))) else none
def octet_Wide.sig (k : Nat) : Sig E.toTys := ⟨[.int .i64], [(false, .int .i64)], none, fun x => f k x.1⟩
noncomputable def octet_Wide.body : Code := Try.f55.body.getD .skip
def octet_Wide.calls (k : Nat) : List (Nat × Sig E.toTys) := []
def octet_Wide.cuts : List (Cut E (RT E.toTys [(false, .int .i64)])) := []
theorem octet_Wide.ok (k : Nat) : Okf (XR E) Try.prog 55 (octet_Wide.sig k) := ⟨fn_ok (C := fun k => tab.ctx fun f => lk f (octet_Wide.calls k)) (fun k => tie _) k (fun j hj => calls_ok (kn)) 400 Try.func55 (body := octet_Wide.body) (res := [.tmp 2]) rfl (by kernel_rfl) octet_Wide.cuts (kn) (fun x => by kernel_rfl), _, Try.func55, by kernel_rfl, by kernel_rfl⟩
/-! ### steeple/octet.Of: function 50 -/
def octet_Of.f (k : Nat) (a0 : Int) (a1 : S27) : Option Bool := if a0 < 0 then some false else if a0 > 7 then some false else if a0 = 7 then some true else if a0 = 6 then some (decide (a1.f0 = 0)) else if a1.f0 = 0 then (if 0 ≤ a0 then (if 0 ≤ shl .u64 1 a0 then some (decide (shr .u64 a1.f1 (shl .u64 1 a0) = 0)) else none) else none) else some false
def octet_Of.sig (k : Nat) : Sig E.toTys := ⟨[.int .i64, .st 0], [(false, .bool)], none, fun x => f k x.1 x.2.1⟩
noncomputable def octet_Of.body : Code := Try.f50.body.getD .skip
def octet_Of.calls (k : Nat) : List (Nat × Sig E.toTys) := []
def octet_Of.cuts : List (Cut E (RT E.toTys [(false, .bool)])) := []
theorem octet_Of.ok (k : Nat) : Okf (XR E) Try.prog 50 (octet_Of.sig k) := ⟨fn_ok (C := fun k => tab.ctx fun f => lk f (octet_Of.calls k)) (fun k => tie _) k (fun j hj => calls_ok (kn)) 400 Try.func50 (body := octet_Of.body) (res := [.tmp 4]) rfl (by kernel_rfl) octet_Of.cuts (kn) (fun x => by kernel_rfl), _, Try.func50, by kernel_rfl, by kernel_rfl⟩
/-! ### steeple/linpoly.New$1: function 79 -/
def linpoly_New_1.f (k : Nat) (a0 : S27) (a1 : Option Int) : Option Bool := (match a1 with | none => none | some r0 => (octet_Of.f k r0 a0).bind fun r1 => some (!r1))
def linpoly_New_1.sig (k : Nat) : Sig E.toTys := ⟨[.st 0, .ptr (.int .i64)], [(false, .bool)], none, fun x => f k x.1 x.2.1⟩
noncomputable def linpoly_New_1.body : Code := Try.f79.body.getD .skip
def linpoly_New_1.calls (k : Nat) : List (Nat × Sig E.toTys) := [(50, octet_Of.sig k)]
def linpoly_New_1.cuts : List (Cut E (RT E.toTys [(false, .bool)])) := []
theorem linpoly_New_1.ok (k : Nat) : Okf (XR E) Try.prog 79 (linpoly_New_1.sig k) := ⟨fn_ok (C := fun k => tab.ctx fun f => lk f (linpoly_New_1.calls k)) (fun k => tie _) k (fun j hj => calls_ok (kc (octet_Of.ok j) (kn))) 400 Try.func79 (body := linpoly_New_1.body) (res := [.tmp 3]) rfl (by kernel_rfl) linpoly_New_1.cuts (kn) (fun x => by kernel_rfl), _, Try.func79, by kernel_rfl, by kernel_rfl⟩
/-! ### slices.IndexFunc: function 85 -/
def slices_IndexFunc85_c79.l2 : Nat → List S27 → Int → Int → Int → Option Int
  | 0, _, _, _, _ => none
  | k + 1, x0, x1, x2, x3 => if x3 < x2 then (if 0 ≤ x3 then (if x3 < (x0.length : Int) then ((linpoly_New_1.f k (rd27 x0 x3) (some x1)).bind fun r0 => if r0 = true then some x3 else slices_IndexFunc85_c79.l2 k x0 x1 x2 (wrap64 (x3 + 1))) else none) else none) else some (-1)
def slices_IndexFunc85_c79.f (k : Nat) (a0 : List S27) (a1 : Int) : Option Int := slices_IndexFunc85_c79.l2 k a0 a1 (a0.length : Int) 0
def slices_IndexFunc85_c79.sig (k : Nat) : Sig E.toTys := ⟨[.slice (.st 0), .ext 79 (.int .i64)], [(false, .int .i64)], none, fun x => f k x.1 x.2.1⟩
noncomputable def slices_IndexFunc85_c79.body : Code := Try.f85.body.getD .skip
def slices_IndexFunc85_c79.calls (k : Nat) : List (Nat × Sig E.toTys) := [(79, linpoly_New_1.sig k)]
def slices_IndexFunc85_c79.cuts : List (Cut E (RT E.toTys [(false, .int .i64)])) := [⟨true, 2, ⟨cat [.one (.val (.slice (.st 0))), .one (.val (.ext 79 (.int .i64)))] (cat (ds 5) (cat [.one (.val (.int .i64)), .one (.val (.int .i64))] (ds 10))), [], false⟩, fun k x => slices_IndexFunc85_c79.l2 k x.1.1 x.1.2.1 x.1.2.2.1 x.1.2.2.2.1⟩]
theorem slices_IndexFunc85_c79.ok (k : Nat) : Okf (XR E) Try.prog 85 (slices_IndexFunc85_c79.sig k) := ⟨fn_ok (C := fun k => tab.ctx fun f => lk f (slices_IndexFunc85_c79.calls k)) (fun k => tie _) k (fun j hj => calls_ok (kc (linpoly_New_1.ok j) (kn))) 400 Try.func85 (body := slices_IndexFunc85_c79.body) (res := [.tmp 4]) rfl (by kernel_rfl) slices_IndexFunc85_c79.cuts (kc ⟨by kernel_rfl, rfl, fun _ => rfl, fun _ _ => by kernel_rfl⟩ (kn)) (fun x => by kernel_rfl), _, Try.func85, by kernel_rfl, by kernel_rfl⟩
/-! ### slices.ContainsFunc: function 69 -/
def slices_ContainsFunc69_c79.f (k : Nat) (a0 : List S27) (a1 : Int) : Option Bool := (slices_IndexFunc85_c79.f k a0 a1).bind fun r0 => some (decide (r0 ≥ 0))
def slices_ContainsFunc69_c79.sig (k : Nat) : Sig E.toTys := ⟨[.slice (.st 0), .ext 79 (.int .i64)], [(false, .bool)], none, fun x => f k x.1 x.2.1⟩
noncomputable def slices_ContainsFunc69_c79.body : Code := Try.f69.body.getD .skip
def slices_ContainsFunc69_c79.calls (k : Nat) : List (Nat × Sig E.toTys) := [(85, slices_IndexFunc85_c79.sig k)]
def slices_ContainsFunc69_c79.cuts : List (Cut E (RT E.toTys [(false, .bool)])) := []
theorem slices_ContainsFunc69_c79.ok (k : Nat) : Okf (XR E) Try.prog 69 (slices_ContainsFunc69_c79.sig k) := ⟨fn_ok (C := fun k => tab.ctx fun f => lk f (slices_ContainsFunc69_c79.calls k)) (fun k => tie _) k (fun j hj => calls_ok (kc (slices_IndexFunc85_c79.ok j) (kn))) 400 Try.func69 (body := slices_ContainsFunc69_c79.body) (res := [.tmp 4]) rfl (by kernel_rfl) slices_ContainsFunc69_c79.cuts (kn) (fun x => by kernel_rfl), _, Try.func69, by kernel_rfl, by kernel_rfl⟩
/-! ### math/bits.Len64: function 101 -/
mutual
def math_bits_Len64.j7 : Nat → Int → Int → Option Int
  | 0, _, _ => none
  | k + 1, x0, x1 => if x0 ≥ 256 then math_bits_Len64.j10 k (shr .u64 x0 8) (wrap64 (x1 + 8)) else math_bits_Len64.j10 k x0 x1
def math_bits_Len64.j10 : Nat → Int → Int → Option Int
  | 0, _, _ => none
  | k + 1, x0, x1 => if 0 ≤ IntKind.u8.wrap x0 then (if IntKind.u8.wrap x0 < (ByteArray.size by256_793 : Int) then some (wrap64 (x1 + (wrap64 (bt by256_793 (IntKind.u8.wrap x0))))) else none) else none
end
def math_bits_Len64.f (k : Nat) (a0 : Int) : Option Int := if a0 ≥ 4294967296 then (if shr .u64 a0 32 ≥ 65536 then math_bits_Len64.j7 k (shr .u64 (shr .u64 a0 32) 16) (wrap64 ((32 : Int) + 16)) else math_bits_Len64.j7 k (shr .u64 a0 32) 32) else if a0 ≥ 65536 then math_bits_Len64.j7 k (shr .u64 a0 16) (wrap64 ((0 : Int) + 16)) else math_bits_Len64.j7 k a0 0
def math_bits_Len64.sig (k : Nat) : Sig E.toTys := ⟨[.int .u64], [(false, .int .i64)], none, fun x => f k x.1⟩
noncomputable def math_bits_Len64.body : Code := Try.f101.body.getD .skip
def math_bits_Len64.calls (k : Nat) : List (Nat × Sig E.toTys) := []
def math_bits_Len64.cuts : List (Cut E (RT E.toTys [(false, .int .i64)])) := [⟨false, 7, ⟨cat [.one (.val (.int .u64))] (cat (ds 1) (cat [.one (.val (.int .i64))] (ds 22))), [], false⟩, fun k x => math_bits_Len64.j7 k x.1.1 x.1.2.1⟩,
  ⟨false, 10, ⟨cat [.one (.val (.int .u64))] (cat (ds 1) (cat [.one (.val (.int .i64))] (ds 22))), [], false⟩, fun k x => math_bits_Len64.j10 k x.1.1 x.1.2.1⟩]
theorem math_bits_Len64.ok (k : Nat) : Okf (XR E) Try.prog 101 (math_bits_Len64.sig k) := ⟨fn_ok (C := fun k => tab.ctx fun f => lk f (math_bits_Len64.calls k)) (fun k => tie _) k (fun j hj => calls_ok (kn)) 400 Try.func101 (body := math_bits_Len64.body) (res := [.tmp 2]) rfl (by kernel_rfl) math_bits_Len64.cuts (kc ⟨by kernel_rfl, rfl, fun _ => rfl, fun _ _ => by kernel_rfl⟩ (kc ⟨by kernel_rfl, rfl, fun _ => rfl, fun _ _ => by kernel_rfl⟩ (kn))) (fun x => by kernel_rfl), _, Try.func101, by kernel_rfl, by kernel_rfl⟩
/-! ### steeple/span.lead: function 98 -/
def span_lead.f (k : Nat) (a0 : S27) : Option Int := if a0.f0 = 0 then ((math_bits_Len64.f k a0.f1).bind fun r0 => some (wrap64 (r0 - 1))) else (math_bits_Len64.f k a0.f0).bind fun r1 => some (wrap64 (63 + r1))
def span_lead.sig (k : Nat) : Sig E.toTys := ⟨[.st 0], [(false, .int .i64)], none, fun x => f k x.1⟩
noncomputable def span_lead.body : Code := Try.f98.body.getD .skip
def span_lead.calls (k : Nat) : List (Nat × Sig E.toTys) := [(101, math_bits_Len64.sig k)]
def span_lead.cuts : List (Cut E (RT E.toTys [(false, .int .i64)])) := []
theorem span_lead.ok (k : Nat) : Okf (XR E) Try.prog 98 (span_lead.sig k) := ⟨fn_ok (C := fun k => tab.ctx fun f => lk f (span_lead.calls k)) (fun k => tie _) k (fun j hj => calls_ok (kc (math_bits_Len64.ok j) (kn))) 400 Try.func98 (body := span_lead.body) (res := [.tmp 2]) rfl (by kernel_rfl) span_lead.cuts (kn) (fun x => by kernel_rfl), _, Try.func98, by kernel_rfl, by kernel_rfl⟩
/-! ### steeple/tower.Bit: function 67 -/
mutual
def tower_Bit.j3 : Nat → Int → Int → Int → Option S27
  | 0, _, _, _ => none
  | k + 1, x0, x1, x2 => if x0 ≥ 64 then (if x0 < 128 then (if 0 ≤ wrap64 (x0 - 64) then some (⟨shl .u64 1 (wrap64 (x0 - 64)), 0⟩ : S27) else none) else tower_Bit.j5 k x1 x2) else tower_Bit.j5 k x1 x2
def tower_Bit.j5 : Nat → Int → Int → Option S27
  | 0, _, _ => none
  | k + 1, _, _ => some (⟨0, 0⟩ : S27)
end
def tower_Bit.f (k : Nat) (a0 : Int) : Option S27 := if a0 ≥ 0 then (if a0 < 64 then (if 0 ≤ a0 then some (⟨0, shl .u64 1 a0⟩ : S27) else none) else tower_Bit.j3 k a0 0 0) else tower_Bit.j3 k a0 0 0
def tower_Bit.sig (k : Nat) : Sig E.toTys := ⟨[.int .i64], [(false, .st 0)], none, fun x => f k x.1⟩
noncomputable def tower_Bit.body : Code := Try.f67.body.getD .skip
def tower_Bit.calls (k : Nat) : List (Nat × Sig E.toTys) := []
def tower_Bit.cuts : List (Cut E (RT E.toTys [(false, .st 0)])) := [⟨false, 3, ⟨cat [.one (.val (.int .i64))] (cat (ds 1) (cat [.one (.ptr 0 0)] (ds 22))), [.var [.val (.int .u64), .val (.int .u64)]], false⟩, fun k x => tower_Bit.j3 k x.1.1 x.2.1.1 x.2.1.2.1⟩,
  ⟨false, 5, ⟨cat (ds 2) (cat [.one (.ptr 0 0)] (ds 22)), [.var [.val (.int .u64), .val (.int .u64)]], false⟩, fun k x => tower_Bit.j5 k x.2.1.1 x.2.1.2.1⟩]
theorem tower_Bit.ok (k : Nat) : Okf (XR E) Try.prog 67 (tower_Bit.sig k) := ⟨fn_ok (C := fun k => tab.ctx fun f => lk f (tower_Bit.calls k)) (fun k => tie _) k (fun j hj => calls_ok (kn)) 400 Try.func67 (body := tower_Bit.body) (res := [.cell 2 27]) rfl (by kernel_rfl) tower_Bit.cuts (kc ⟨by kernel_rfl, rfl, fun _ => rfl, fun _ _ => by kernel_rfl⟩ (kc ⟨by kernel_rfl, rfl, fun _ => rfl, fun _ _ => by kernel_rfl⟩ (kn))) (fun x => by kernel_rfl), _, Try.func67, by kernel_rfl, by kernel_rfl⟩
/-! ### steeple/span.has: function 97 -/
def span_has.f (k : Nat) (a0 : S27) (a1 : Int) : Option Bool := (tower_Bit.f k a1).bind fun r0 => some (!decide (bits .or .u64 (bits .and .u64 a0.f1 r0.f1) (bits .and .u64 a0.f0 r0.f0) = 0))
def span_has.sig (k : Nat) : Sig E.toTys := ⟨[.st 0, .int .i64], [(false, .bool)], none, fun x => f k x.1 x.2.1⟩
noncomputable def span_has.body : Code := Try.f97.body.getD .skip
def span_has.calls (k : Nat) : List (Nat × Sig E.toTys) := [(67, tower_Bit.sig k)]
def span_has.cuts : List (Cut E (RT E.toTys [(false, .bool)])) := []
theorem span_has.ok (k : Nat) : Okf (XR E) Try.prog 97 (span_has.sig k) := ⟨fn_ok (C := fun k => tab.ctx fun f => lk f (span_has.calls k)) (fun k => tie _) k (fun j hj => calls_ok (kc (tower_Bit.ok j) (kn))) 400 Try.func97 (body := span_has.body) (res := [.tmp 4]) rfl (by kernel_rfl) span_has.cuts (kn) (fun x => by kernel_rfl), _, Try.func97, by kernel_rfl, by kernel_rfl⟩
/-! ### steeple/tower.Add: function 20 -/
def tower_Add.f (k : Nat) (a0 : S27) (a1 : S27) : Option S27 := some (⟨bits .xor .u64 a0.f0 a1.f0, bits .xor .u64 a0.f1 a1.f1⟩ : S27)
def tower_Add.sig (k : Nat) : Sig E.toTys := ⟨[.st 0, .st 0], [(false, .st 0)], none, fun x => f k x.1 x.2.1⟩
noncomputable def tower_Add.body : Code := Try.f20.body.getD .skip
def tower_Add.calls (k : Nat) : List (Nat × Sig E.toTys) := []
def tower_Add.cuts : List (Cut E (RT E.toTys [(false, .st 0)])) := []
theorem tower_Add.ok (k : Nat) : Okf (XR E) Try.prog 20 (tower_Add.sig k) := ⟨fn_ok (C := fun k => tab.ctx fun f => lk f (tower_Add.calls k)) (fun k => tie _) k (fun j hj => calls_ok (kn)) 400 Try.func20 (body := tower_Add.body) (res := [.cell 4 27]) rfl (by kernel_rfl) tower_Add.cuts (kn) (fun x => by kernel_rfl), _, Try.func20, by kernel_rfl, by kernel_rfl⟩
/-! ### steeple/span.less: function 96 -/
def span_less.l2 : Nat → List S27 → Int → Int → Int → Int → Int → Int → Option S27
  | 0, _, _, _, _, _, _, _ => none
  | k + 1, x0, x1, x2, x3, x4, x5, x6 => if x2 < x1 then (if 0 ≤ x2 then (if x2 < (x0.length : Int) then ((span_lead.f k (rd27 x0 x2)).bind fun r0 => (span_has.f k (⟨x3, x4⟩ : S27) r0).bind fun r1 => if r1 = true then ((tower_Add.f k (⟨x3, x4⟩ : S27) (rd27 x0 x2)).bind fun r2 => span_less.l2 k x0 x1 (wrap64 (x2 + 1)) r2.f0 r2.f1 x5 x6) else span_less.l2 k x0 x1 (wrap64 (x2 + 1)) x3 x4 x5 x6) else none) else none) else some (⟨x3, x4⟩ : S27)
def span_less.f (k : Nat) (a0 : List S27) (a1 : S27) : Option S27 := span_less.l2 k a0 (a0.length : Int) 0 a1.f0 a1.f1 0 0
def span_less.sig (k : Nat) : Sig E.toTys := ⟨[.slice (.st 0), .st 0], [(false, .st 0)], none, fun x => f k x.1 x.2.1⟩
noncomputable def span_less.body : Code := Try.f96.body.getD .skip
def span_less.calls (k : Nat) : List (Nat × Sig E.toTys) := [(98, span_lead.sig k), (97, span_has.sig k), (20, tower_Add.sig k)]
def span_less.cuts : List (Cut E (RT E.toTys [(false, .st 0)])) := [⟨true, 2, ⟨cat (ds 3) (cat [.one (.ptr 0 0), .one (.ptr 1 0)] (cat (ds 2) (cat [.one (.val (.slice (.st 0))), .one (.val (.int .i64)), .one (.val (.int .i64))] (ds 12)))), [.var [.val (.int .u64), .val (.int .u64)], .var [.val (.int .u64), .val (.int .u64)]], false⟩, fun k x => span_less.l2 k x.1.1 x.1.2.1 x.1.2.2.1 x.2.1.1 x.2.1.2.1 x.2.2.1.1 x.2.2.1.2.1⟩]
theorem span_less.ok (k : Nat) : Okf (XR E) Try.prog 96 (span_less.sig k) := ⟨fn_ok (C := fun k => tab.ctx fun f => lk f (span_less.calls k)) (fun k => tie _) k (fun j hj => calls_ok (kc (span_lead.ok j) (kc (span_has.ok j) (kc (tower_Add.ok j) (kn))))) 400 Try.func96 (body := span_less.body) (res := [.cell 4 27]) rfl (by kernel_rfl) span_less.cuts (kc ⟨by kernel_rfl, rfl, fun _ => rfl, fun _ _ => by kernel_rfl⟩ (kn)) (fun x => by kernel_rfl), _, Try.func96, by kernel_rfl, by kernel_rfl⟩
/-! ### steeple/span.put$1: function 100 -/
def span_put_1.f (k : Nat) (a0 : S27) (a1 : S27) : Option Int := (span_lead.f k a1).bind fun r0 => (span_lead.f k a0).bind fun r1 => some (wrap64 (r0 - r1))
def span_put_1.sig (k : Nat) : Sig E.toTys := ⟨[.st 0, .st 0], [(false, .int .i64)], none, fun x => f k x.1 x.2.1⟩
noncomputable def span_put_1.body : Code := Try.f100.body.getD .skip
def span_put_1.calls (k : Nat) : List (Nat × Sig E.toTys) := [(98, span_lead.sig k)]
def span_put_1.cuts : List (Cut E (RT E.toTys [(false, .int .i64)])) := []
theorem span_put_1.ok (k : Nat) : Okf (XR E) Try.prog 100 (span_put_1.sig k) := ⟨fn_ok (C := fun k => tab.ctx fun f => lk f (span_put_1.calls k)) (fun k => tie _) k (fun j hj => calls_ok (kc (span_lead.ok j) (kn))) 400 Try.func100 (body := span_put_1.body) (res := [.tmp 4]) rfl (by kernel_rfl) span_put_1.cuts (kn) (fun x => by kernel_rfl), _, Try.func100, by kernel_rfl, by kernel_rfl⟩
/-! ### math/bits.Len: function 103 -/
def math_bits_Len.f (k : Nat) (a0 : Int) : Option Int := (math_bits_Len64.f k a0).bind fun r0 => some r0
def math_bits_Len.sig (k : Nat) : Sig E.toTys := ⟨[.int .u64], [(false, .int .i64)], none, fun x => f k x.1⟩
noncomputable def math_bits_Len.body : Code := Try.f103.body.getD .skip
def math_bits_Len.calls (k : Nat) : List (Nat × Sig E.toTys) := [(101, math_bits_Len64.sig k)]
def math_bits_Len.cuts : List (Cut E (RT E.toTys [(false, .int .i64)])) := []
theorem math_bits_Len.ok (k : Nat) : Okf (XR E) Try.prog 103 (math_bits_Len.sig k) := ⟨fn_ok (C := fun k => tab.ctx fun f => lk f (math_bits_Len.calls k)) (fun k => tie _) k (fun j hj => calls_ok (kc (math_bits_Len64.ok j) (kn))) 400 Try.func103 (body := math_bits_Len.body) (res := [.tmp 2]) rfl (by kernel_rfl) math_bits_Len.cuts (kn) (fun x => by kernel_rfl), _, Try.func103, by kernel_rfl, by kernel_rfl⟩
/-! ### slices.insertionSortCmpFunc: function 104 -/
mutual
def slices_insertionSortCmpFunc104_c100.l1 : Nat → Int → Int → Unit → Int → List S27 → Option (List S27)
  | 0, _, _, _, _, _ => none
  | k + 1, x0, x1, x2, x3, x4 => if x3 < x1 then slices_insertionSortCmpFunc104_c100.l4 k x0 x1 x2 x3 x3 x4 else some x4
def slices_insertionSortCmpFunc104_c100.l4 : Nat → Int → Int → Unit → Int → Int → List S27 → Option (List S27)
  | 0, _, _, _, _, _, _ => none
  | k + 1, x0, x1, x2, x3, x4, x5 => if x4 > x0 then (if 0 ≤ x4 then (if x4 < (x5.length : Int) then (if 0 ≤ wrap64 (x4 - 1) then (if wrap64 (x4 - 1) < (x5.length : Int) then ((span_put_1.f k (rd27 x5 x4) (rd27 x5 (wrap64 (x4 - 1)))).bind fun r0 => if r0 < 0 then (if 0 ≤ wrap64 (x4 - 1) then (if wrap64 (x4 - 1) < (x5.length : Int) then (if 0 ≤ x4 then (if x4 < (x5.length : Int) then (if 0 ≤ x4 then (if x4 < (x5.length : Int) then (if 0 ≤ wrap64 (x4 - 1) then (if wrap64 (x4 - 1) < ((x5.set (Int.toNat x4) (rd27 x5 (wrap64 (x4 - 1)))).length : Int) then slices_insertionSortCmpFunc104_c100.l4 k x0 x1 x2 x3 (wrap64 (x4 - 1)) ((x5.set (Int.toNat x4) (rd27 x5 (wrap64 (x4 - 1)))).set (Int.toNat (wrap64 (x4 - 1))) (rd27 x5 x4)) else none) else none) else none) else none) else none) else none) else none) else none) else slices_insertionSortCmpFunc104_c100.l1 k x0 x1 x2 (wrap64 (x3 + 1)) x5) else none) else none) else none) else none) else slices_insertionSortCmpFunc104_c100.l1 k x0 x1 x2 (wrap64 (x3 + 1)) x5
end
def slices_insertionSortCmpFunc104_c100.f (k : Nat) (a0 : List S27) (a1 : Int) (a2 : Int) (a3 : Unit) : Option (List S27) := slices_insertionSortCmpFunc104_c100.l1 k a1 a2 a3 (wrap64 (a1 + 1)) a0
def slices_insertionSortCmpFunc104_c100.sig (k : Nat) : Sig E.toTys := ⟨[.slice (.st 0), .int .i64, .int .i64, .fnv 100], [(true, .slice (.st 0))], some 0, fun x => f k x.1 x.2.1 x.2.2.1 x.2.2.2.1⟩
noncomputable def slices_insertionSortCmpFunc104_c100.body : Code := Try.f104.body.getD .skip
def slices_insertionSortCmpFunc104_c100.calls (k : Nat) : List (Nat × Sig E.toTys) := [(100, span_put_1.sig k)]
def slices_insertionSortCmpFunc104_c100.cuts : List (Cut E (RT E.toTys [(true, .slice (.st 0))])) := [⟨true, 1, ⟨cat [.one (.ref 0), .one (.val (.int .i64)), .one (.val (.int .i64)), .one (.val (.fnv 100))] (cat (ds 4) (cat [.one (.val (.int .i64))] (ds 44))), [.arr (.st 0)], true⟩, fun k x => slices_insertionSortCmpFunc104_c100.l1 k x.1.1 x.1.2.1 x.1.2.2.1 x.1.2.2.2.1 x.2.1⟩,
  ⟨true, 4, ⟨cat [.one (.ref 0), .one (.val (.int .i64)), .one (.val (.int .i64)), .one (.val (.fnv 100))] (cat (ds 4) (cat [.one (.val (.int .i64)), .one (.val (.int .i64))] (ds 43))), [.arr (.st 0)], true⟩, fun k x => slices_insertionSortCmpFunc104_c100.l4 k x.1.1 x.1.2.1 x.1.2.2.1 x.1.2.2.2.1 x.1.2.2.2.2.1 x.2.1⟩]
theorem slices_insertionSortCmpFunc104_c100.ok (k : Nat) : Okf (XR E) Try.prog 104 (slices_insertionSortCmpFunc104_c100.sig k) := ⟨fn_okIO (C := fun k => tab.ctx fun f => lk f (slices_insertionSortCmpFunc104_c100.calls k)) (fun k => tie _) k (fun j hj => calls_ok (kc (span_put_1.ok j) (kn))) 400 0 Try.func104 (body := slices_insertionSortCmpFunc104_c100.body) (res := []) rfl (by kernel_rfl) slices_insertionSortCmpFunc104_c100.cuts (kc ⟨by kernel_rfl, rfl, fun _ => rfl, fun _ _ => by kernel_rfl⟩ (kc ⟨by kernel_rfl, rfl, fun _ => rfl, fun _ _ => by kernel_rfl⟩ (kn))) (fun x => by kernel_rfl), _, Try.func104, by kernel_rfl, by kernel_rfl⟩
/-! ### slices.pdqsortCmpFunc: function 102 -/
def slices_pdqsortCmpFunc102_c100.l2 : Nat → Int → Int → Int → Unit → Bool → Bool → List S27 → Option (List S27)
  | 0, _, _, _, _, _, _, _ => none
  | k + 1, x0, x1, x2, x3, x4, _, x6 => if wrap64 (x1 - x0) ≤ 12 then ((slices_insertionSortCmpFunc104_c100.f k x6 x0 x1 x3).bind fun r0 => some r0) else if x2 = 0 then none else if (!x4) = true then none else none
def slices_pdqsortCmpFunc102_c100.f (k : Nat) (a0 : List S27) (a1 : Int) (a2 : Int) (a3 : Int) (a4 : Unit) : Option (List S27) := slices_pdqsortCmpFunc102_c100.l2 k a1 a2 a3 a4 true true a0
def slices_pdqsortCmpFunc102_c100.sig (k : Nat) : Sig E.toTys := ⟨[.slice (.st 0), .int .i64, .int .i64, .int .i64, .fnv 100], [(true, .slice (.st 0))], some 0, fun x => f k x.1 x.2.1 x.2.2.1 x.2.2.2.1 x.2.2.2.2.1⟩
noncomputable def slices_pdqsortCmpFunc102_c100.body : Code := Try.f102.body.getD .skip
def slices_pdqsortCmpFunc102_c100.calls (k : Nat) : List (Nat × Sig E.toTys) := [(104, slices_insertionSortCmpFunc104_c100.sig k)]
def slices_pdqsortCmpFunc102_c100.cuts : List (Cut E (RT E.toTys [(true, .slice (.st 0))])) := [⟨true, 2, ⟨cat [.one (.ref 0), .one (.val (.int .i64)), .one (.val (.int .i64)), .one (.val (.int .i64)), .one (.val (.fnv 100))] (cat (ds 5) (cat [.one (.val (.bool)), .one (.val (.bool))] (ds 136))), [.arr (.st 0)], true⟩, fun k x => slices_pdqsortCmpFunc102_c100.l2 k x.1.1 x.1.2.1 x.1.2.2.1 x.1.2.2.2.1 x.1.2.2.2.2.1 x.1.2.2.2.2.2.1 x.2.1⟩]
theorem slices_pdqsortCmpFunc102_c100.ok (k : Nat) : Okf (XR E) Try.prog 102 (slices_pdqsortCmpFunc102_c100.sig k) := ⟨fn_okIO (C := fun k => tab.ctx fun f => lk f (slices_pdqsortCmpFunc102_c100.calls k)) (fun k => tie _) k (fun j hj => calls_ok (kc (slices_insertionSortCmpFunc104_c100.ok j) (kn))) 400 0 Try.func102 (body := slices_pdqsortCmpFunc102_c100.body) (res := []) rfl (by kernel_rfl) slices_pdqsortCmpFunc102_c100.cuts (kc ⟨by kernel_rfl, rfl, fun _ => rfl, fun _ _ => by kernel_rfl⟩ (kn)) (fun x => by kernel_rfl), _, Try.func102, by kernel_rfl, by kernel_rfl⟩
/-! ### slices.SortFunc: function 99 -/
def slices_SortFunc99_c100.f (k : Nat) (a0 : List S27) (a1 : Unit) : Option (List S27) := (math_bits_Len.f k (IntKind.u64.wrap (a0.length : Int))).bind fun r0 => (slices_pdqsortCmpFunc102_c100.f k a0 0 (a0.length : Int) r0 a1).bind fun r1 => some r1
def slices_SortFunc99_c100.sig (k : Nat) : Sig E.toTys := ⟨[.slice (.st 0), .fnv 100], [(true, .slice (.st 0))], some 0, fun x => f k x.1 x.2.1⟩
noncomputable def slices_SortFunc99_c100.body : Code := Try.f99.body.getD .skip
def slices_SortFunc99_c100.calls (k : Nat) : List (Nat × Sig E.toTys) := [(103, math_bits_Len.sig k), (102, slices_pdqsortCmpFunc102_c100.sig k)]
def slices_SortFunc99_c100.cuts : List (Cut E (RT E.toTys [(true, .slice (.st 0))])) := []
theorem slices_SortFunc99_c100.ok (k : Nat) : Okf (XR E) Try.prog 99 (slices_SortFunc99_c100.sig k) := ⟨fn_okIO (C := fun k => tab.ctx fun f => lk f (slices_SortFunc99_c100.calls k)) (fun k => tie _) k (fun j hj => calls_ok (kc (math_bits_Len.ok j) (kc (slices_pdqsortCmpFunc102_c100.ok j) (kn)))) 400 0 Try.func99 (body := slices_SortFunc99_c100.body) (res := []) rfl (by kernel_rfl) slices_SortFunc99_c100.cuts (kn) (fun x => by kernel_rfl), _, Try.func99, by kernel_rfl, by kernel_rfl⟩
/-! ### steeple/span.put: function 94 -/
def span_put.l6 : Nat → List S27 → Int → Int → Int → Int → List S27 → Option (List S27)
  | 0, _, _, _, _, _, _ => none
  | k + 1, x0, x1, x2, x3, x4, x5 => if x2 < x1 then (if 0 ≤ x2 then (if x2 < (x0.length : Int) then ((span_lead.f k (⟨x3, x4⟩ : S27)).bind fun r1 => (span_has.f k (rd27 x0 x2) r1).bind fun r2 => if r2 = true then ((tower_Add.f k (rd27 x0 x2) (⟨x3, x4⟩ : S27)).bind fun r3 => if x5.length + [r3].length ≤ 140737488355328 / 16 then span_put.l6 k x0 x1 (wrap64 (x2 + 1)) x3 x4 (x5 ++ [r3]) else none) else if x5.length + [rd27 x0 x2].length ≤ 140737488355328 / 16 then span_put.l6 k x0 x1 (wrap64 (x2 + 1)) x3 x4 (x5 ++ [rd27 x0 x2]) else none) else none) else none) else if x5.length + [(⟨x3, x4⟩ : S27)].length ≤ 140737488355328 / 16 then ((slices_SortFunc99_c100.f k (x5 ++ [(⟨x3, x4⟩ : S27)]) ()).bind fun r4 => some r4) else none
def span_put.f (k : Nat) (a0 : List S27) (a1 : S27) : Option (List S27) := (span_less.f k a0 a1).bind fun r0 => if r0.f0 = 0 ∧ r0.f1 = 0 then some a0 else span_put.l6 k a0 (a0.length : Int) 0 r0.f0 r0.f1 []
def span_put.sig (k : Nat) : Sig E.toTys := ⟨[.slice (.st 0), .st 0], [(false, .slice (.st 0))], none, fun x => f k x.1 x.2.1⟩
noncomputable def span_put.body : Code := Try.f94.body.getD .skip
def span_put.calls (k : Nat) : List (Nat × Sig E.toTys) := [(96, span_less.sig k), (98, span_lead.sig k), (97, span_has.sig k), (20, tower_Add.sig k), (99, slices_SortFunc99_c100.sig k)]
def span_put.cuts : List (Cut E (RT E.toTys [(false, .slice (.st 0))])) := [⟨true, 6, ⟨cat (ds 3) (cat [.one (.ptr 0 0)] (cat (ds 1) (cat [.one (.ref 1)] (cat (ds 9) (cat [.one (.val (.slice (.st 0))), .one (.val (.int .i64)), .one (.val (.int .i64))] (ds 22)))))), [.var [.val (.int .u64), .val (.int .u64)], .arr (.st 0)], false⟩, fun k x => span_put.l6 k x.1.1 x.1.2.1 x.1.2.2.1 x.2.1.1 x.2.1.2.1 x.2.2.1⟩]
theorem span_put.ok (k : Nat) : Okf (XR E) Try.prog 94 (span_put.sig k) := ⟨fn_ok (C := fun k => tab.ctx fun f => lk f (span_put.calls k)) (fun k => tie _) k (fun j hj => calls_ok (kc (span_less.ok j) (kc (span_lead.ok j) (kc (span_has.ok j) (kc (tower_Add.ok j) (kc (slices_SortFunc99_c100.ok j) (kn))))))) 400 Try.func94 (body := span_put.body) (res := [.tmp 4]) rfl (by kernel_rfl) span_put.cuts (kc ⟨by kernel_rfl, rfl, fun _ => rfl, fun _ _ => by kernel_rfl⟩ (kn)) (fun x => by kernel_rfl), _, Try.func94, by kernel_rfl, by kernel_rfl⟩
/-! ### steeple/span.Basis: function 88 -/
def span_Basis.l3 : Nat → List S27 → List S27 → Int → Int → Option (List S27)
  | 0, _, _, _, _ => none
  | k + 1, x0, x1, x2, x3 => if x3 < x2 then (if 0 ≤ x3 then (if x3 < (x1.length : Int) then ((span_put.f k x0 (rd27 x1 x3)).bind fun r0 => span_Basis.l3 k r0 x1 x2 (wrap64 (x3 + 1))) else none) else none) else some x0
def span_Basis.f (k : Nat) (a0 : List S27) : Option (List S27) := span_Basis.l3 k [] a0 (a0.length : Int) 0
def span_Basis.sig (k : Nat) : Sig E.toTys := ⟨[.slice (.st 0)], [(false, .slice (.st 0))], none, fun x => f k x.1⟩
noncomputable def span_Basis.body : Code := Try.f88.body.getD .skip
def span_Basis.calls (k : Nat) : List (Nat × Sig E.toTys) := [(94, span_put.sig k)]
def span_Basis.cuts : List (Cut E (RT E.toTys [(false, .slice (.st 0))])) := [⟨true, 3, ⟨cat (ds 3) (cat [.one (.val (.slice (.st 0)))] (cat (ds 2) (cat [.one (.val (.slice (.st 0))), .one (.val (.int .i64)), .one (.val (.int .i64))] (ds 8)))), [], false⟩, fun k x => span_Basis.l3 k x.1.1 x.1.2.1 x.1.2.2.1 x.1.2.2.2.1⟩]
theorem span_Basis.ok (k : Nat) : Okf (XR E) Try.prog 88 (span_Basis.sig k) := ⟨fn_ok (C := fun k => tab.ctx fun f => lk f (span_Basis.calls k)) (fun k => tie _) k (fun j hj => calls_ok (kc (span_put.ok j) (kn))) 400 Try.func88 (body := span_Basis.body) (res := [.tmp 2]) rfl (by kernel_rfl) span_Basis.cuts (kc ⟨by kernel_rfl, rfl, fun _ => rfl, fun _ _ => by kernel_rfl⟩ (kn)) (fun x => by kernel_rfl), _, Try.func88, by kernel_rfl, by kernel_rfl⟩
/-! ### steeple/span.Rank: function 80 -/
def span_Rank.f (k : Nat) (a0 : List S27) : Option Int := (span_Basis.f k a0).bind fun r0 => some (r0.length : Int)
def span_Rank.sig (k : Nat) : Sig E.toTys := ⟨[.slice (.st 0)], [(false, .int .i64)], none, fun x => f k x.1⟩
noncomputable def span_Rank.body : Code := Try.f80.body.getD .skip
def span_Rank.calls (k : Nat) : List (Nat × Sig E.toTys) := [(88, span_Basis.sig k)]
def span_Rank.cuts : List (Cut E (RT E.toTys [(false, .int .i64)])) := []
theorem span_Rank.ok (k : Nat) : Okf (XR E) Try.prog 80 (span_Rank.sig k) := ⟨fn_ok (C := fun k => tab.ctx fun f => lk f (span_Rank.calls k)) (fun k => tie _) k (fun j hj => calls_ok (kc (span_Basis.ok j) (kn))) 400 Try.func80 (body := span_Rank.body) (res := [.tmp 2]) rfl (by kernel_rfl) span_Rank.cuts (kn) (fun x => by kernel_rfl), _, Try.func80, by kernel_rfl, by kernel_rfl⟩
/-! ### slices.Clone: function 44 -/
def slices_Clone44.f (k : Nat) (a0 : List S27) : Option (List S27) := if ([] : List Int).length + a0.length ≤ 140737488355328 / 16 then some ([] ++ a0) else none
def slices_Clone44.sig (k : Nat) : Sig E.toTys := ⟨[.slice (.st 0)], [(true, .slice (.st 0))], none, fun x => f k x.1⟩
noncomputable def slices_Clone44.body : Code := Try.f44.body.getD .skip
def slices_Clone44.calls (k : Nat) : List (Nat × Sig E.toTys) := []
def slices_Clone44.cuts : List (Cut E (RT E.toTys [(true, .slice (.st 0))])) := []
noncomputable def slices_Clone44.fn0 : Func := Try.f44
def slices_Clone44.st0 (xs : List S27) : St E.toTys := ⟨[.c (.s (.val (.slice (.st 0)) xs)), .c (.s .dead), .c (.s .emp), .c (.s .dead), .c (.s .dead), .c (.s .dead), .c (.s .dead), .c (.s .dead)], []⟩
theorem slices_Clone44.ok (k : Nat) : Okf (XR E) Try.prog 44 (slices_Clone44.sig k) := ⟨clone_ok (C := tab.ctx fun f => lk f (slices_Clone44.calls k)) (tie _) (calls_ok kn) (t := 22) (u := .st 0) Try.func44 rfl (res := [.tmp 2]) (by kernel_rfl) ⟨rfl, rfl, rfl⟩ ⟨rfl, rfl, rfl⟩ (by kernel_rfl) slices_Clone44.st0 (fun x => by kernel_rfl) (fun _ => rfl) (fun _ _ => ⟨rfl, rfl⟩) (F := fun x => slices_Clone44.f k x) (by kernel_rfl) (fun xs => by kernel_rfl), _, Try.func44, by kernel_rfl, by kernel_rfl⟩
/-! ### steeple/tower.halves: function 71 -/
def tower_halves.f (k : Nat) (a0 : Int) (a1 : Int) : Option (Int × Int) := if 0 ≤ wrap64 (a0 - 1) then (if 0 ≤ shl .i64 1 (wrap64 (a0 - 1)) then (if 0 ≤ shl .i64 1 (wrap64 (a0 - 1)) then some (shr .u64 a1 (shl .i64 1 (wrap64 (a0 - 1))), bits .and .u64 a1 (IntKind.u64.wrap ((shl .u64 1 (shl .i64 1 (wrap64 (a0 - 1)))) - 1))) else none) else none) else none
def tower_halves.sig (k : Nat) : Sig E.toTys := ⟨[.int .i64, .int .u64], [(false, .int .u64), (false, .int .u64)], none, fun x => f k x.1 x.2.1⟩
noncomputable def tower_halves.body : Code := Try.f71.body.getD .skip
def tower_halves.calls (k : Nat) : List (Nat × Sig E.toTys) := []
def tower_halves.cuts : List (Cut E (RT E.toTys [(false, .int .u64), (false, .int .u64)])) := []
theorem tower_halves.ok (k : Nat) : Okf (XR E) Try.prog 71 (tower_halves.sig k) := ⟨fn_ok (C := fun k => tab.ctx fun f => lk f (tower_halves.calls k)) (fun k => tie _) k (fun j hj => calls_ok (kn)) 400 Try.func71 (body := tower_halves.body) (res := [.tmp 4, .tmp 5]) rfl (by kernel_rfl) tower_halves.cuts (kn) (fun x => by kernel_rfl), _, Try.func71, by kernel_rfl, by kernel_rfl⟩
/-! ### steeple/tower.join: function 72 -/
def tower_join.f (k : Nat) (a0 : Int) (a1 : Int) (a2 : Int) : Option Int := if 0 ≤ wrap64 (a0 - 1) then (if 0 ≤ shl .u64 1 (wrap64 (a0 - 1)) then some (bits .or .u64 (shl .u64 a1 (shl .u64 1 (wrap64 (a0 - 1)))) a2) else none) else none
def tower_join.sig (k : Nat) : Sig E.toTys := ⟨[.int .i64, .int .u64, .int .u64], [(false, .int .u64)], none, fun x => f k x.1 x.2.1 x.2.2.1⟩
noncomputable def tower_join.body : Code := Try.f72.body.getD .skip
def tower_join.calls (k : Nat) : List (Nat × Sig E.toTys) := []
def tower_join.cuts : List (Cut E (RT E.toTys [(false, .int .u64)])) := []
theorem tower_join.ok (k : Nat) : Okf (XR E) Try.prog 72 (tower_join.sig k) := ⟨fn_ok (C := fun k => tab.ctx fun f => lk f (tower_join.calls k)) (fun k => tie _) k (fun j hj => calls_ok (kn)) 400 Try.func72 (body := tower_join.body) (res := [.tmp 6]) rfl (by kernel_rfl) tower_join.cuts (kn) (fun x => by kernel_rfl), _, Try.func72, by kernel_rfl, by kernel_rfl⟩
/-! ### steeple/tower.mulX: function 52 -/
def tower_mulX.f : Nat → Int → Int → Option Int
  | 0, _, _ => none
  | k + 1, a0, a1 => if a0 = 0 then some a1 else (tower_halves.f k a0 a1).bind fun r0 => (tower_mulX.f k (wrap64 (a0 - 1)) r0.1).bind fun r1 => (tower_join.f k a0 (bits .xor .u64 r0.2 r1) r0.1).bind fun r2 => some r2
def tower_mulX.sig (k : Nat) : Sig E.toTys := ⟨[.int .i64, .int .u64], [(false, .int .u64)], none, fun x => f k x.1 x.2.1⟩
noncomputable def tower_mulX.body : Code := Try.f52.body.getD .skip
def tower_mulX.calls (k : Nat) : List (Nat × Sig E.toTys) := [(71, tower_halves.sig k), (52, tower_mulX.sig k), (72, tower_join.sig k)]
def tower_mulX.cuts : List (Cut E (RT E.toTys [(false, .int .u64)])) := []
theorem tower_mulX.oks (k : Nat) : Okf (XR E) Try.prog 52 (tower_mulX.sig k) := by
  induction k using Nat.strongRecOn with
  | ind k ih =>
  cases k with
  | zero => exact ⟨ok0 fun _ => rfl, _, Try.func52, by kernel_rfl, by kernel_rfl⟩
  | succ k => exact ⟨fn_ok (C := fun k => tab.ctx fun f => lk f (tower_mulX.calls k)) (fun k => tie _) k (fun j hj => calls_ok (kc (tower_halves.ok j) (kc (ih j (Nat.lt_succ_of_le hj)) (kc (tower_join.ok j) (kn))))) 400 Try.func52 (body := tower_mulX.body) (res := [.tmp 4]) rfl (by kernel_rfl) tower_mulX.cuts (kn) (fun x => by kernel_rfl), _, Try.func52, by kernel_rfl, by kernel_rfl⟩
theorem tower_mulX.ok (k : Nat) : Okf (XR E) Try.prog 52 (tower_mulX.sig k) := (tower_mulX.oks k)
/-! ### steeple/tower.mul: function 51 -/
mutual
def tower_mul.j2 : Nat → Int → Int → Option Int
  | 0, _, _ => none
  | k + 1, x0, x1 => some (bits .and .u64 (bits .and .u64 x0 x1) 1)
def tower_mul.f : Nat → Int → Int → Int → Option Int
  | 0, _, _, _ => none
  | k + 1, a0, a1, a2 => if a0 = 0 then tower_mul.j2 k a1 a2 else if a1 = 0 then tower_mul.j2 k a1 a2 else if a2 = 0 then tower_mul.j2 k a1 a2 else (tower_halves.f k a0 a1).bind fun r0 => (tower_halves.f k a0 a2).bind fun r1 => (tower_mul.f k (wrap64 (a0 - 1)) r0.1 r1.1).bind fun r2 => (tower_mul.f k (wrap64 (a0 - 1)) r0.2 r1.2).bind fun r3 => (tower_mul.f k (wrap64 (a0 - 1)) (bits .xor .u64 r0.1 r0.2) (bits .xor .u64 r1.1 r1.2)).bind fun r4 => (tower_mulX.f k (wrap64 (a0 - 1)) r2).bind fun r5 => (tower_join.f k a0 (bits .xor .u64 (bits .xor .u64 (bits .xor .u64 r4 r2) r3) r5) (bits .xor .u64 r3 r2)).bind fun r6 => some r6
end
def tower_mul.sig (k : Nat) : Sig E.toTys := ⟨[.int .i64, .int .u64, .int .u64], [(false, .int .u64)], none, fun x => f k x.1 x.2.1 x.2.2.1⟩
noncomputable def tower_mul.body : Code := Try.f51.body.getD .skip
def tower_mul.calls (k : Nat) : List (Nat × Sig E.toTys) := [(71, tower_halves.sig k), (51, tower_mul.sig k), (52, tower_mulX.sig k), (72, tower_join.sig k)]
def tower_mul.cuts : List (Cut E (RT E.toTys [(false, .int .u64)])) := [⟨false, 2, ⟨cat (ds 1) (cat [.one (.val (.int .u64)), .one (.val (.int .u64))] (ds 71)), [], false⟩, fun k x => tower_mul.j2 k x.1.1 x.1.2.1⟩]
theorem tower_mul.oks (k : Nat) : Okf (XR E) Try.prog 51 (tower_mul.sig k) := by
  induction k using Nat.strongRecOn with
  | ind k ih =>
  cases k with
  | zero => exact ⟨ok0 fun _ => rfl, _, Try.func51, by kernel_rfl, by kernel_rfl⟩
  | succ k => exact ⟨fn_ok (C := fun k => tab.ctx fun f => lk f (tower_mul.calls k)) (fun k => tie _) k (fun j hj => calls_ok (kc (tower_halves.ok j) (kc (ih j (Nat.lt_succ_of_le hj)) (kc (tower_mulX.ok j) (kc (tower_join.ok j) (kn)))))) 400 Try.func51 (body := tower_mul.body) (res := [.tmp 6]) rfl (by kernel_rfl) tower_mul.cuts (kc ⟨by kernel_rfl, rfl, fun _ => rfl, fun _ _ => by kernel_rfl⟩ (kn)) (fun x => by kernel_rfl), _, Try.func51, by kernel_rfl, by kernel_rfl⟩
theorem tower_mul.ok (k : Nat) : Okf (XR E) Try.prog 51 (tower_mul.sig k) := (tower_mul.oks k)
/-! ### steeple/tower.Mul: function 21 -/
def tower_Mul.f (k : Nat) (a0 : Int) (a1 : S27) (a2 : S27) : Option S27 := (octet_Of.f k a0 a1).bind fun r0 => if (!r0) = true then some (⟨0, 0⟩ : S27) else (octet_Of.f k a0 a2).bind fun r1 => if (!r1) = true then some (⟨0, 0⟩ : S27) else if a0 ≤ 6 then ((tower_mul.f k a0 a1.f1 a2.f1).bind fun r2 => some (⟨0, r2⟩ : S27)) else (tower_mul.f k 6 a1.f0 a2.f0).bind fun r3 => (tower_mul.f k 6 a1.f1 a2.f1).bind fun r4 => (tower_mul.f k 6 (bits .xor .u64 a1.f0 a1.f1) (bits .xor .u64 a2.f0 a2.f1)).bind fun r5 => (tower_mulX.f k 6 r3).bind fun r6 => some (⟨bits .xor .u64 (bits .xor .u64 (bits .xor .u64 r5 r3) r4) r6, bits .xor .u64 r4 r3⟩ : S27)
def tower_Mul.sig (k : Nat) : Sig E.toTys := ⟨[.int .i64, .st 0, .st 0], [(false, .st 0)], none, fun x => f k x.1 x.2.1 x.2.2.1⟩
noncomputable def tower_Mul.body : Code := Try.f21.body.getD .skip
def tower_Mul.calls (k : Nat) : List (Nat × Sig E.toTys) := [(50, octet_Of.sig k), (51, tower_mul.sig k), (52, tower_mulX.sig k)]
def tower_Mul.cuts : List (Cut E (RT E.toTys [(false, .st 0)])) := []
theorem tower_Mul.ok (k : Nat) : Okf (XR E) Try.prog 21 (tower_Mul.sig k) := ⟨fn_ok (C := fun k => tab.ctx fun f => lk f (tower_Mul.calls k)) (fun k => tie _) k (fun j hj => calls_ok (kc (octet_Of.ok j) (kc (tower_mul.ok j) (kc (tower_mulX.ok j) (kn))))) 400 Try.func21 (body := tower_Mul.body) (res := [.cell 6 27]) rfl (by kernel_rfl) tower_Mul.cuts (kn) (fun x => by kernel_rfl), _, Try.func21, by kernel_rfl, by kernel_rfl⟩
/-! ### (*steeple/linpoly.Space).value: function 76 -/
def linpoly_Space_value.j2 : Nat → Option S80 → Int → Int → Int → Int → Int → Int → Option S27
  | 0, _, _, _, _, _, _, _ => none
  | k + 1, x0, x1, x2, x3, x4, x5, x6 => if x2 < x1 then ((match x0 with | none => none | some r0 => (match x0 with | none => none | some r1 => if 0 ≤ x2 then (if x2 < (r1.f2.length : Int) then ((tower_Add.f k (⟨x3, x4⟩ : S27) (rd27 r1.f2 x2)).bind fun r2 => (tower_Mul.f k r0.f0 (⟨x3, x4⟩ : S27) r2).bind fun r3 => linpoly_Space_value.j2 k x0 x1 (wrap64 (x2 + 1)) r3.f0 r3.f1 x5 x6) else none) else none))) else some (⟨x3, x4⟩ : S27)
def linpoly_Space_value.f (k : Nat) (a0 : Option S80) (a1 : Int) (a2 : S27) : Option S27 := linpoly_Space_value.j2 k a0 a1 0 a2.f0 a2.f1 0 0
def linpoly_Space_value.sig (k : Nat) : Sig E.toTys := ⟨[.ptr (.st 3), .int .i64, .st 0], [(false, .st 0)], none, fun x => f k x.1 x.2.1 x.2.2.1⟩
noncomputable def linpoly_Space_value.body : Code := Try.f76.body.getD .skip
def linpoly_Space_value.calls (k : Nat) : List (Nat × Sig E.toTys) := [(20, tower_Add.sig k), (21, tower_Mul.sig k)]
def linpoly_Space_value.cuts : List (Cut E (RT E.toTys [(false, .st 0)])) := [⟨false, 2, ⟨cat [.one (.val (.ptr (.st 3))), .one (.val (.int .i64))] (cat (ds 3) (cat [.one (.ptr 0 0), .one (.ptr 1 0), .one (.val (.int .i64))] (ds 21))), [.var [.val (.int .u64), .val (.int .u64)], .var [.val (.int .u64), .val (.int .u64)]], false⟩, fun k x => linpoly_Space_value.j2 k x.1.1 x.1.2.1 x.1.2.2.1 x.2.1.1 x.2.1.2.1 x.2.2.1.1 x.2.2.1.2.1⟩]
theorem linpoly_Space_value.ok (k : Nat) : Okf (XR E) Try.prog 76 (linpoly_Space_value.sig k) := ⟨fn_ok (C := fun k => tab.ctx fun f => lk f (linpoly_Space_value.calls k)) (fun k => tie _) k (fun j hj => calls_ok (kc (tower_Add.ok j) (kc (tower_Mul.ok j) (kn)))) 400 Try.func76 (body := linpoly_Space_value.body) (res := [.cell 6 27]) rfl (by kernel_rfl) linpoly_Space_value.cuts (kc ⟨by kernel_rfl, rfl, fun _ => rfl, fun _ _ => by kernel_rfl⟩ (kn)) (fun x => by kernel_rfl), _, Try.func76, by kernel_rfl, by kernel_rfl⟩
/-! ### steeple/tower.square: function 90 -/
def tower_square.f : Nat → Int → Int → Option Int
  | 0, _, _ => none
  | k + 1, a0, a1 => if a0 = 0 then some a1 else (tower_halves.f k a0 a1).bind fun r0 => (tower_square.f k (wrap64 (a0 - 1)) r0.1).bind fun r1 => (tower_mulX.f k (wrap64 (a0 - 1)) r1).bind fun r2 => (tower_square.f k (wrap64 (a0 - 1)) r0.2).bind fun r3 => (tower_join.f k a0 r2 (bits .xor .u64 r3 r1)).bind fun r4 => some r4
def tower_square.sig (k : Nat) : Sig E.toTys := ⟨[.int .i64, .int .u64], [(false, .int .u64)], none, fun x => f k x.1 x.2.1⟩
noncomputable def tower_square.body : Code := Try.f90.body.getD .skip
def tower_square.calls (k : Nat) : List (Nat × Sig E.toTys) := [(71, tower_halves.sig k), (90, tower_square.sig k), (52, tower_mulX.sig k), (72, tower_join.sig k)]
def tower_square.cuts : List (Cut E (RT E.toTys [(false, .int .u64)])) := []
theorem tower_square.oks (k : Nat) : Okf (XR E) Try.prog 90 (tower_square.sig k) := by
  induction k using Nat.strongRecOn with
  | ind k ih =>
  cases k with
  | zero => exact ⟨ok0 fun _ => rfl, _, Try.func90, by kernel_rfl, by kernel_rfl⟩
  | succ k => exact ⟨fn_ok (C := fun k => tab.ctx fun f => lk f (tower_square.calls k)) (fun k => tie _) k (fun j hj => calls_ok (kc (tower_halves.ok j) (kc (ih j (Nat.lt_succ_of_le hj)) (kc (tower_mulX.ok j) (kc (tower_join.ok j) (kn)))))) 400 Try.func90 (body := tower_square.body) (res := [.tmp 4]) rfl (by kernel_rfl) tower_square.cuts (kn) (fun x => by kernel_rfl), _, Try.func90, by kernel_rfl, by kernel_rfl⟩
theorem tower_square.ok (k : Nat) : Okf (XR E) Try.prog 90 (tower_square.sig k) := (tower_square.oks k)
/-! ### steeple/tower.inv: function 89 -/
def tower_inv.f : Nat → Int → Int → Option Int
  | 0, _, _ => none
  | k + 1, a0, a1 => if a0 = 0 then some a1 else (tower_halves.f k a0 a1).bind fun r0 => (tower_mulX.f k (wrap64 (a0 - 1)) r0.1).bind fun r1 => (tower_mul.f k (wrap64 (a0 - 1)) r0.2 (bits .xor .u64 r0.2 r1)).bind fun r2 => (tower_square.f k (wrap64 (a0 - 1)) r0.1).bind fun r3 => (tower_inv.f k (wrap64 (a0 - 1)) (bits .xor .u64 r2 r3)).bind fun r4 => (tower_mul.f k (wrap64 (a0 - 1)) r0.1 r4).bind fun r5 => (tower_mul.f k (wrap64 (a0 - 1)) (bits .xor .u64 r0.2 r1) r4).bind fun r6 => (tower_join.f k a0 r5 r6).bind fun r7 => some r7
def tower_inv.sig (k : Nat) : Sig E.toTys := ⟨[.int .i64, .int .u64], [(false, .int .u64)], none, fun x => f k x.1 x.2.1⟩
noncomputable def tower_inv.body : Code := Try.f89.body.getD .skip
def tower_inv.calls (k : Nat) : List (Nat × Sig E.toTys) := [(71, tower_halves.sig k), (52, tower_mulX.sig k), (51, tower_mul.sig k), (90, tower_square.sig k), (89, tower_inv.sig k), (72, tower_join.sig k)]
def tower_inv.cuts : List (Cut E (RT E.toTys [(false, .int .u64)])) := []
theorem tower_inv.oks (k : Nat) : Okf (XR E) Try.prog 89 (tower_inv.sig k) := by
  induction k using Nat.strongRecOn with
  | ind k ih =>
  cases k with
  | zero => exact ⟨ok0 fun _ => rfl, _, Try.func89, by kernel_rfl, by kernel_rfl⟩
  | succ k => exact ⟨fn_ok (C := fun k => tab.ctx fun f => lk f (tower_inv.calls k)) (fun k => tie _) k (fun j hj => calls_ok (kc (tower_halves.ok j) (kc (tower_mulX.ok j) (kc (tower_mul.ok j) (kc (tower_square.ok j) (kc (ih j (Nat.lt_succ_of_le hj)) (kc (tower_join.ok j) (kn)))))))) 400 Try.func89 (body := tower_inv.body) (res := [.tmp 4]) rfl (by kernel_rfl) tower_inv.cuts (kn) (fun x => by kernel_rfl), _, Try.func89, by kernel_rfl, by kernel_rfl⟩
theorem tower_inv.ok (k : Nat) : Okf (XR E) Try.prog 89 (tower_inv.sig k) := (tower_inv.oks k)
/-! ### steeple/tower.Inv: function 81 -/
def tower_Inv.f (k : Nat) (a0 : Int) (a1 : S27) : Option S27 := (octet_Of.f k a0 a1).bind fun r0 => if (!r0) = true then some (⟨0, 0⟩ : S27) else if a0 ≤ 6 then ((tower_inv.f k a0 a1.f1).bind fun r1 => some (⟨0, r1⟩ : S27)) else (tower_mulX.f k 6 a1.f0).bind fun r2 => (tower_mul.f k 6 a1.f1 (bits .xor .u64 a1.f1 r2)).bind fun r3 => (tower_square.f k 6 a1.f0).bind fun r4 => (tower_inv.f k 6 (bits .xor .u64 r3 r4)).bind fun r5 => (tower_mul.f k 6 a1.f0 r5).bind fun r6 => (tower_mul.f k 6 (bits .xor .u64 a1.f1 r2) r5).bind fun r7 => some (⟨r6, r7⟩ : S27)
def tower_Inv.sig (k : Nat) : Sig E.toTys := ⟨[.int .i64, .st 0], [(false, .st 0)], none, fun x => f k x.1 x.2.1⟩
noncomputable def tower_Inv.body : Code := Try.f81.body.getD .skip
def tower_Inv.calls (k : Nat) : List (Nat × Sig E.toTys) := [(50, octet_Of.sig k), (89, tower_inv.sig k), (52, tower_mulX.sig k), (51, tower_mul.sig k), (90, tower_square.sig k)]
def tower_Inv.cuts : List (Cut E (RT E.toTys [(false, .st 0)])) := []
theorem tower_Inv.ok (k : Nat) : Okf (XR E) Try.prog 81 (tower_Inv.sig k) := ⟨fn_ok (C := fun k => tab.ctx fun f => lk f (tower_Inv.calls k)) (fun k => tie _) k (fun j hj => calls_ok (kc (octet_Of.ok j) (kc (tower_inv.ok j) (kc (tower_mulX.ok j) (kc (tower_mul.ok j) (kc (tower_square.ok j) (kn))))))) 400 Try.func81 (body := tower_Inv.body) (res := [.cell 4 27]) rfl (by kernel_rfl) tower_Inv.cuts (kn) (fun x => by kernel_rfl), _, Try.func81, by kernel_rfl, by kernel_rfl⟩
/-! ### steeple/linpoly.New: function 64 -/
def linpoly_New.l11 : Nat → List S27 → Int → Int → Int → Int → List S27 → List S27 → List S27 → Option ((Option S80) × Int)
  | 0, _, _, _, _, _, _, _, _ => none
  | k + 1, x0, x1, x2, x3, x4, x5, x6, x7 => if x2 < x1 then (if 0 ≤ x2 then (if x2 < (x0.length : Int) then ((linpoly_Space_value.f k (some (⟨x4, x5, x6, x7⟩ : S80)) x2 (rd27 x0 x2)).bind fun r4 => if x6.length + [r4].length ≤ 140737488355328 / 16 then ((tower_Inv.f k x3 r4).bind fun r5 => if x7.length + [r5].length ≤ 140737488355328 / 16 then linpoly_New.l11 k x0 x1 (wrap64 (x2 + 1)) x3 x4 x5 (x6 ++ [r4]) (x7 ++ [r5]) else none) else none) else none) else none) else some (some (⟨x4, x5, x6, x7⟩ : S80), 0)
def linpoly_New.f (k : Nat) (a0 : Int) (a1 : List S27) : Option ((Option S80) × Int) := (octet_Wide.f k a0).bind fun r0 => if r0 = 0 then some (none, 1) else if (a1.length : Int) > 10 then some (none, 2) else (slices_ContainsFunc69_c79.f k a1 a0).bind fun r1 => if r1 = true then some (none, 5) else (span_Rank.f k a1).bind fun r2 => if r2 < (a1.length : Int) then some (none, 7) else (slices_Clone44.f k a1).bind fun r3 => linpoly_New.l11 k a1 (a1.length : Int) 0 a0 a0 r3 [] []
def linpoly_New.sig (k : Nat) : Sig E.toTys := ⟨[.int .i64, .slice (.st 0)], [(false, .ptr (.st 3)), (false, .int .i64)], none, fun x => f k x.1 x.2.1⟩
noncomputable def linpoly_New.body : Code := Try.f64.body.getD .skip
def linpoly_New.calls (k : Nat) : List (Nat × Sig E.toTys) := [(55, octet_Wide.sig k), (69, slices_ContainsFunc69_c79.sig k), (80, span_Rank.sig k), (44, slices_Clone44.sig k), (76, linpoly_Space_value.sig k), (81, tower_Inv.sig k)]
def linpoly_New.cuts : List (Cut E (RT E.toTys [(false, .ptr (.st 3)), (false, .int .i64)])) := [⟨true, 11, ⟨cat (ds 2) (cat [.one (.ptr 0 0)] (cat (ds 3) (cat [.one (.ptr 1 0)] (cat (ds 26) (cat [.one (.val (.slice (.st 0))), .one (.val (.int .i64)), .one (.val (.int .i64))] (ds 32)))))), [.var [.val (.int .i64)], .var [.val (.int .i64), .ref 2, .ref 3, .ref 4], .arr (.st 0), .arr (.st 0), .arr (.st 0)], false⟩, fun k x => linpoly_New.l11 k x.1.1 x.1.2.1 x.1.2.2.1 x.2.1.1 x.2.2.1.1 x.2.2.2.1 x.2.2.2.2.1 x.2.2.2.2.2.1⟩]
theorem linpoly_New.ok (k : Nat) : Okf (XR E) Try.prog 64 (linpoly_New.sig k) := ⟨fn_ok (C := fun k => (tab.ctx fun f => lk f (linpoly_New.calls k)).pmd [(14, 5, [1]), (14, 6, [6]), (14, 7, []), (14, 8, [3]), (14, 12, [1]), (14, 13, [0]), (14, 14, [6]), (14, 15, []), (14, 16, []), (14, 17, [4]), (14, 20, [1]), (14, 23, [1])]) (fun k => (tie _).pmd _) k (fun j hj => (calls_ok (kc (octet_Wide.ok j) (kc (slices_ContainsFunc69_c79.ok j) (kc (span_Rank.ok j) (kc (slices_Clone44.ok j) (kc (linpoly_Space_value.ok j) (kc (tower_Inv.ok j) (kn)))))))).pmd _) 400 Try.func64 (body := linpoly_New.body) (res := [.tmp 4, .tmp 5]) rfl (by kernel_rfl) linpoly_New.cuts (kc ⟨by kernel_rfl, rfl, fun _ => rfl, fun _ _ => by kernel_rfl⟩ (kn)) (fun x => by kernel_rfl), _, Try.func64, by kernel_rfl, by kernel_rfl⟩
/-! ### (steeple/steeplelaw05.Space).Made: function 37 -/
def steeplelaw05_Space_Made.f (k : Nat) (a0 : S24) : Option (Option S80) := if (a0.f1.length : Int) > 6 then some none else (linpoly_New.f k a0.f0 a0.f1).bind fun r0 => if r0.2 = 0 then some r0.1 else some none
def steeplelaw05_Space_Made.sig (k : Nat) : Sig E.toTys := ⟨[.st 1], [(false, .ptr (.st 3))], none, fun x => f k x.1⟩
noncomputable def steeplelaw05_Space_Made.body : Code := Try.f37.body.getD .skip
def steeplelaw05_Space_Made.calls (k : Nat) : List (Nat × Sig E.toTys) := [(64, linpoly_New.sig k)]
def steeplelaw05_Space_Made.cuts : List (Cut E (RT E.toTys [(false, .ptr (.st 3))])) := []
theorem steeplelaw05_Space_Made.ok (k : Nat) : Okf (XR E) Try.prog 37 (steeplelaw05_Space_Made.sig k) := ⟨fn_ok (C := fun k => tab.ctx fun f => lk f (steeplelaw05_Space_Made.calls k)) (fun k => tie _) k (fun j hj => calls_ok (kc (linpoly_New.ok j) (kn))) 400 Try.func37 (body := steeplelaw05_Space_Made.body) (res := [.tmp 2]) rfl (by kernel_rfl) steeplelaw05_Space_Made.cuts (kn) (fun x => by kernel_rfl), _, Try.func37, by kernel_rfl, by kernel_rfl⟩
/-! ### steeple/steeplelaw07.some: function 12 -/
def steeplelaw07_some.f (k : Nat) (a0 : S29) : Option (Option S80) := if (a0.f0.f1.length : Int) > 5 then some none else if (a0.f1.length : Int) > 40 then some none else (steeplelaw05_Space_Made.f k a0.f0).bind fun r0 => some r0
def steeplelaw07_some.sig (k : Nat) : Sig E.toTys := ⟨[.st 2], [(false, .ptr (.st 3))], none, fun x => f k x.1⟩
noncomputable def steeplelaw07_some.body : Code := Try.f12.body.getD .skip
def steeplelaw07_some.calls (k : Nat) : List (Nat × Sig E.toTys) := [(37, steeplelaw05_Space_Made.sig k)]
def steeplelaw07_some.cuts : List (Cut E (RT E.toTys [(false, .ptr (.st 3))])) := []
theorem steeplelaw07_some.ok (k : Nat) : Okf (XR E) Try.prog 12 (steeplelaw07_some.sig k) := ⟨fn_ok (C := fun k => tab.ctx fun f => lk f (steeplelaw07_some.calls k)) (fun k => tie _) k (fun j hj => calls_ok (kc (steeplelaw05_Space_Made.ok j) (kn))) 400 Try.func12 (body := steeplelaw07_some.body) (res := [.tmp 2]) rfl (by kernel_rfl) steeplelaw07_some.cuts (kn) (fun x => by kernel_rfl), _, Try.func12, by kernel_rfl, by kernel_rfl⟩
/-! ### steeple/linpoly.Plain: function 42 -/
def linpoly_Plain.l9 : Nat → Int → Int → Int → List S27 → Option ((Option S80) × Int)
  | 0, _, _, _, _ => none
  | k + 1, x0, x1, x2, x3 => if x2 < x1 then ((tower_Bit.f k x2).bind fun r1 => if x3.length + [r1].length ≤ 140737488355328 / 16 then linpoly_Plain.l9 k x0 x1 (wrap64 (x2 + 1)) (x3 ++ [r1]) else none) else (linpoly_New.f k x0 x3).bind fun r2 => some (r2.1, r2.2)
def linpoly_Plain.f (k : Nat) (a0 : Int) (a1 : Int) : Option ((Option S80) × Int) := (octet_Wide.f k a0).bind fun r0 => if r0 = 0 then some (none, 1) else if a1 < 0 then some (none, 1) else if a1 > 10 then some (none, 2) else if 0 ≤ a0 then (if a1 > shl .i64 1 a0 then some (none, 7) else linpoly_Plain.l9 k a0 a1 0 []) else none
def linpoly_Plain.sig (k : Nat) : Sig E.toTys := ⟨[.int .i64, .int .i64], [(false, .ptr (.st 3)), (false, .int .i64)], none, fun x => f k x.1 x.2.1⟩
noncomputable def linpoly_Plain.body : Code := Try.f42.body.getD .skip
def linpoly_Plain.calls (k : Nat) : List (Nat × Sig E.toTys) := [(55, octet_Wide.sig k), (67, tower_Bit.sig k), (64, linpoly_New.sig k)]
def linpoly_Plain.cuts : List (Cut E (RT E.toTys [(false, .ptr (.st 3)), (false, .int .i64)])) := [⟨true, 9, ⟨cat [.one (.val (.int .i64))] (cat (ds 5) (cat [.one (.ref 0)] (cat (ds 17) (cat [.one (.val (.int .i64)), .one (.val (.int .i64))] (ds 13))))), [.arr (.st 0)], false⟩, fun k x => linpoly_Plain.l9 k x.1.1 x.1.2.1 x.1.2.2.1 x.2.1⟩]
theorem linpoly_Plain.ok (k : Nat) : Okf (XR E) Try.prog 42 (linpoly_Plain.sig k) := ⟨fn_ok (C := fun k => tab.ctx fun f => lk f (linpoly_Plain.calls k)) (fun k => tie _) k (fun j hj => calls_ok (kc (octet_Wide.ok j) (kc (tower_Bit.ok j) (kc (linpoly_New.ok j) (kn))))) 400 Try.func42 (body := linpoly_Plain.body) (res := [.tmp 4, .tmp 5]) rfl (by kernel_rfl) linpoly_Plain.cuts (kc ⟨by kernel_rfl, rfl, fun _ => rfl, fun _ _ => by kernel_rfl⟩ (kn)) (fun x => by kernel_rfl), _, Try.func42, by kernel_rfl, by kernel_rfl⟩
/-! ### (*steeple/linpoly.Space).Dim: function 38 -/
def linpoly_Space_Dim.f (k : Nat) (a0 : Option S80) : Option Int := (match a0 with | none => some 0 | some _ => (match a0 with | none => none | some r0 => some (r0.f1.length : Int)))
def linpoly_Space_Dim.sig (k : Nat) : Sig E.toTys := ⟨[.ptr (.st 3)], [(false, .int .i64)], none, fun x => f k x.1⟩
noncomputable def linpoly_Space_Dim.body : Code := Try.f38.body.getD .skip
def linpoly_Space_Dim.calls (k : Nat) : List (Nat × Sig E.toTys) := []
def linpoly_Space_Dim.cuts : List (Cut E (RT E.toTys [(false, .int .i64)])) := []
theorem linpoly_Space_Dim.ok (k : Nat) : Okf (XR E) Try.prog 38 (linpoly_Space_Dim.sig k) := ⟨fn_ok (C := fun k => tab.ctx fun f => lk f (linpoly_Space_Dim.calls k)) (fun k => tie _) k (fun j hj => calls_ok (kn)) 400 Try.func38 (body := linpoly_Space_Dim.body) (res := [.tmp 2]) rfl (by kernel_rfl) linpoly_Space_Dim.cuts (kn) (fun x => by kernel_rfl), _, Try.func38, by kernel_rfl, by kernel_rfl⟩
/-! ### steeple/antt.size: function 68 -/
def antt_size.l2 : Nat → List S27 → Int → Int → Option Int
  | 0, _, _, _ => none
  | k + 1, x0, x1, x2 => if x2 < x1 then (if 0 ≤ x2 then (if (x0.length : Int) = shl .i64 1 x2 then some x2 else antt_size.l2 k x0 x1 (wrap64 (x2 + 1))) else none) else some (-1)
def antt_size.f (k : Nat) (a0 : Option S80) (a1 : List S27) : Option Int := (linpoly_Space_Dim.f k a0).bind fun r0 => antt_size.l2 k a1 (wrap64 (r0 + 1)) 0
def antt_size.sig (k : Nat) : Sig E.toTys := ⟨[.ptr (.st 3), .slice (.st 0)], [(false, .int .i64)], none, fun x => f k x.1 x.2.1⟩
noncomputable def antt_size.body : Code := Try.f68.body.getD .skip
def antt_size.calls (k : Nat) : List (Nat × Sig E.toTys) := [(38, linpoly_Space_Dim.sig k)]
def antt_size.cuts : List (Cut E (RT E.toTys [(false, .int .i64)])) := [⟨true, 2, ⟨cat (ds 1) (cat [.one (.val (.slice (.st 0)))] (cat (ds 6) (cat [.one (.val (.int .i64)), .one (.val (.int .i64))] (ds 9)))), [], false⟩, fun k x => antt_size.l2 k x.1.1 x.1.2.1 x.1.2.2.1⟩]
theorem antt_size.ok (k : Nat) : Okf (XR E) Try.prog 68 (antt_size.sig k) := ⟨fn_ok (C := fun k => tab.ctx fun f => lk f (antt_size.calls k)) (fun k => tie _) k (fun j hj => calls_ok (kc (linpoly_Space_Dim.ok j) (kn))) 400 Try.func68 (body := antt_size.body) (res := [.tmp 4]) rfl (by kernel_rfl) antt_size.cuts (kc ⟨by kernel_rfl, rfl, fun _ => rfl, fun _ _ => by kernel_rfl⟩ (kn)) (fun x => by kernel_rfl), _, Try.func68, by kernel_rfl, by kernel_rfl⟩
/-! ### (*steeple/linpoly.Space).Level: function 46 -/
def linpoly_Space_Level.f (k : Nat) (a0 : Option S80) : Option Int := (match a0 with | none => some 0 | some _ => (match a0 with | none => none | some r0 => some r0.f0))
def linpoly_Space_Level.sig (k : Nat) : Sig E.toTys := ⟨[.ptr (.st 3)], [(false, .int .i64)], none, fun x => f k x.1⟩
noncomputable def linpoly_Space_Level.body : Code := Try.f46.body.getD .skip
def linpoly_Space_Level.calls (k : Nat) : List (Nat × Sig E.toTys) := []
def linpoly_Space_Level.cuts : List (Cut E (RT E.toTys [(false, .int .i64)])) := []
theorem linpoly_Space_Level.ok (k : Nat) : Okf (XR E) Try.prog 46 (linpoly_Space_Level.sig k) := ⟨fn_ok (C := fun k => tab.ctx fun f => lk f (linpoly_Space_Level.calls k)) (fun k => tie _) k (fun j hj => calls_ok (kn)) 400 Try.func46 (body := linpoly_Space_Level.body) (res := [.tmp 2]) rfl (by kernel_rfl) linpoly_Space_Level.cuts (kn) (fun x => by kernel_rfl), _, Try.func46, by kernel_rfl, by kernel_rfl⟩
/-! ### steeple/antt.ask$1: function 70 -/
def antt_ask_1.f (k : Nat) (a0 : S27) (a1 : Option (Option S80)) : Option Bool := (match a1 with | none => none | some r0 => (linpoly_Space_Level.f k r0).bind fun r1 => (octet_Of.f k r1 a0).bind fun r2 => some (!r2))
def antt_ask_1.sig (k : Nat) : Sig E.toTys := ⟨[.st 0, .ptr (.ptr (.st 3))], [(false, .bool)], none, fun x => f k x.1 x.2.1⟩
noncomputable def antt_ask_1.body : Code := Try.f70.body.getD .skip
def antt_ask_1.calls (k : Nat) : List (Nat × Sig E.toTys) := [(46, linpoly_Space_Level.sig k), (50, octet_Of.sig k)]
def antt_ask_1.cuts : List (Cut E (RT E.toTys [(false, .bool)])) := []
theorem antt_ask_1.ok (k : Nat) : Okf (XR E) Try.prog 70 (antt_ask_1.sig k) := ⟨fn_ok (C := fun k => tab.ctx fun f => lk f (antt_ask_1.calls k)) (fun k => tie _) k (fun j hj => calls_ok (kc (linpoly_Space_Level.ok j) (kc (octet_Of.ok j) (kn)))) 400 Try.func70 (body := antt_ask_1.body) (res := [.tmp 3]) rfl (by kernel_rfl) antt_ask_1.cuts (kn) (fun x => by kernel_rfl), _, Try.func70, by kernel_rfl, by kernel_rfl⟩
/-! ### slices.IndexFunc: function 85 -/
def slices_IndexFunc85_c70.l2 : Nat → List S27 → Option S80 → Int → Int → Option Int
  | 0, _, _, _, _ => none
  | k + 1, x0, x1, x2, x3 => if x3 < x2 then (if 0 ≤ x3 then (if x3 < (x0.length : Int) then ((antt_ask_1.f k (rd27 x0 x3) (some x1)).bind fun r0 => if r0 = true then some x3 else slices_IndexFunc85_c70.l2 k x0 x1 x2 (wrap64 (x3 + 1))) else none) else none) else some (-1)
def slices_IndexFunc85_c70.f (k : Nat) (a0 : List S27) (a1 : Option S80) : Option Int := slices_IndexFunc85_c70.l2 k a0 a1 (a0.length : Int) 0
def slices_IndexFunc85_c70.sig (k : Nat) : Sig E.toTys := ⟨[.slice (.st 0), .ext 70 (.ptr (.st 3))], [(false, .int .i64)], none, fun x => f k x.1 x.2.1⟩
noncomputable def slices_IndexFunc85_c70.body : Code := Try.f85.body.getD .skip
def slices_IndexFunc85_c70.calls (k : Nat) : List (Nat × Sig E.toTys) := [(70, antt_ask_1.sig k)]
def slices_IndexFunc85_c70.cuts : List (Cut E (RT E.toTys [(false, .int .i64)])) := [⟨true, 2, ⟨cat [.one (.val (.slice (.st 0))), .one (.val (.ext 70 (.ptr (.st 3))))] (cat (ds 5) (cat [.one (.val (.int .i64)), .one (.val (.int .i64))] (ds 10))), [], false⟩, fun k x => slices_IndexFunc85_c70.l2 k x.1.1 x.1.2.1 x.1.2.2.1 x.1.2.2.2.1⟩]
theorem slices_IndexFunc85_c70.ok (k : Nat) : Okf (XR E) Try.prog 85 (slices_IndexFunc85_c70.sig k) := ⟨fn_ok (C := fun k => tab.ctx fun f => lk f (slices_IndexFunc85_c70.calls k)) (fun k => tie _) k (fun j hj => calls_ok (kc (antt_ask_1.ok j) (kn))) 400 Try.func85 (body := slices_IndexFunc85_c70.body) (res := [.tmp 4]) rfl (by kernel_rfl) slices_IndexFunc85_c70.cuts (kc ⟨by kernel_rfl, rfl, fun _ => rfl, fun _ _ => by kernel_rfl⟩ (kn)) (fun x => by kernel_rfl), _, Try.func85, by kernel_rfl, by kernel_rfl⟩
/-! ### slices.ContainsFunc: function 69 -/
def slices_ContainsFunc69_c70.f (k : Nat) (a0 : List S27) (a1 : Option S80) : Option Bool := (slices_IndexFunc85_c70.f k a0 a1).bind fun r0 => some (decide (r0 ≥ 0))
def slices_ContainsFunc69_c70.sig (k : Nat) : Sig E.toTys := ⟨[.slice (.st 0), .ext 70 (.ptr (.st 3))], [(false, .bool)], none, fun x => f k x.1 x.2.1⟩
noncomputable def slices_ContainsFunc69_c70.body : Code := Try.f69.body.getD .skip
def slices_ContainsFunc69_c70.calls (k : Nat) : List (Nat × Sig E.toTys) := [(85, slices_IndexFunc85_c70.sig k)]
def slices_ContainsFunc69_c70.cuts : List (Cut E (RT E.toTys [(false, .bool)])) := []
theorem slices_ContainsFunc69_c70.ok (k : Nat) : Okf (XR E) Try.prog 69 (slices_ContainsFunc69_c70.sig k) := ⟨fn_ok (C := fun k => tab.ctx fun f => lk f (slices_ContainsFunc69_c70.calls k)) (fun k => tie _) k (fun j hj => calls_ok (kc (slices_IndexFunc85_c70.ok j) (kn))) 400 Try.func69 (body := slices_ContainsFunc69_c70.body) (res := [.tmp 4]) rfl (by kernel_rfl) slices_ContainsFunc69_c70.cuts (kn) (fun x => by kernel_rfl), _, Try.func69, by kernel_rfl, by kernel_rfl⟩
/-! ### steeple/antt.ask: function 43 -/
def antt_ask.f (k : Nat) (a0 : Option S80) (a1 : List S27) (a2 : S27) : Option (Int × Int) := (match a0 with | none => some (0, 1) | some _ => (antt_size.f k a0 a1).bind fun r0 => if r0 < 0 then some (0, 6) else (linpoly_Space_Level.f k a0).bind fun r1 => (octet_Of.f k r1 a2).bind fun r2 => if (!r2) = true then some (0, 5) else (slices_ContainsFunc69_c70.f k a1 a0).bind fun r3 => if r3 = true then some (0, 5) else some (r0, 0))
def antt_ask.sig (k : Nat) : Sig E.toTys := ⟨[.ptr (.st 3), .slice (.st 0), .st 0], [(false, .int .i64), (false, .int .i64)], none, fun x => f k x.1 x.2.1 x.2.2.1⟩
noncomputable def antt_ask.body : Code := Try.f43.body.getD .skip
def antt_ask.calls (k : Nat) : List (Nat × Sig E.toTys) := [(68, antt_size.sig k), (46, linpoly_Space_Level.sig k), (50, octet_Of.sig k), (69, slices_ContainsFunc69_c70.sig k)]
def antt_ask.cuts : List (Cut E (RT E.toTys [(false, .int .i64), (false, .int .i64)])) := []
theorem antt_ask.ok (k : Nat) : Okf (XR E) Try.prog 43 (antt_ask.sig k) := ⟨fn_ok (C := fun k => tab.ctx fun f => lk f (antt_ask.calls k)) (fun k => tie _) k (fun j hj => calls_ok (kc (antt_size.ok j) (kc (linpoly_Space_Level.ok j) (kc (octet_Of.ok j) (kc (slices_ContainsFunc69_c70.ok j) (kn)))))) 400 Try.func43 (body := antt_ask.body) (res := [.tmp 6, .tmp 7]) rfl (by kernel_rfl) antt_ask.cuts (kn) (fun x => by kernel_rfl), _, Try.func43, by kernel_rfl, by kernel_rfl⟩
end Go.Proofs.Ytjajiedfhpacpaa.B
namespace Go.Proofs.Ytjajiedfhpacpaa.B
open Go.Proofs.Ytjajiedfhpacpaa.V.B Go.RowKit
set_option linter.unusedVariables false
/-! ### steeple/span.Point: function 53 -/
mutual
def span_Point.l3 : Nat → List S27 → Int → Int → Int → Int → Int → Int → Int → Option S27
  | 0, _, _, _, _, _, _, _, _ => none
  | k + 1, x0, x1, x2, x3, x4, x5, x6, x7 => if x3 < x2 then (if x1 > 0 then (if 0 ≤ x3 then (if bits .and .i64 (shr .i64 x1 x3) 1 = 1 then (if 0 ≤ x3 then (if x3 < (x0.length : Int) then ((tower_Add.f k (⟨x6, x7⟩ : S27) (rd27 x0 x3)).bind fun r0 => span_Point.j7 k x0 x1 x2 x3 x4 x5 r0.f0 r0.f1) else none) else none) else span_Point.j7 k x0 x1 x2 x3 x4 x5 x6 x7) else none) else span_Point.j7 k x0 x1 x2 x3 x4 x5 x6 x7) else some (⟨x6, x7⟩ : S27)
def span_Point.j7 : Nat → List S27 → Int → Int → Int → Int → Int → Int → Int → Option S27
  | 0, _, _, _, _, _, _, _, _ => none
  | k + 1, x0, x1, x2, x3, x4, x5, x6, x7 => span_Point.l3 k x0 x1 x2 (wrap64 (x3 + 1)) x4 x5 x6 x7
end
def span_Point.f (k : Nat) (a0 : List S27) (a1 : Int) : Option S27 := span_Point.l3 k a0 a1 (if 62 < (a0.length : Int) then (62 : Int) else (a0.length : Int)) 0 0 0 0 0
def span_Point.sig (k : Nat) : Sig E.toTys := ⟨[.slice (.st 0), .int .i64], [(false, .st 0)], none, fun x => f k x.1 x.2.1⟩
noncomputable def span_Point.body : Code := Try.f53.body.getD .skip
def span_Point.calls (k : Nat) : List (Nat × Sig E.toTys) := [(20, tower_Add.sig k)]
def span_Point.cuts : List (Cut E (RT E.toTys [(false, .st 0)])) := [⟨true, 3, ⟨cat [.one (.val (.slice (.st 0))), .one (.val (.int .i64))] (cat (ds 2) (cat [.one (.ptr 0 0), .one (.ptr 1 0)] (cat (ds 3) (cat [.one (.val (.int .i64)), .one (.val (.int .i64))] (ds 19))))), [.var [.val (.int .u64), .val (.int .u64)], .var [.val (.int .u64), .val (.int .u64)]], false⟩, fun k x => span_Point.l3 k x.1.1 x.1.2.1 x.1.2.2.1 x.1.2.2.2.1 x.2.1.1 x.2.1.2.1 x.2.2.1.1 x.2.2.1.2.1⟩,
  ⟨false, 7, ⟨cat [.one (.val (.slice (.st 0))), .one (.val (.int .i64))] (cat (ds 2) (cat [.one (.ptr 0 0), .one (.ptr 1 0)] (cat (ds 3) (cat [.one (.val (.int .i64)), .one (.val (.int .i64))] (ds 19))))), [.var [.val (.int .u64), .val (.int .u64)], .var [.val (.int .u64), .val (.int .u64)]], false⟩, fun k x => span_Point.j7 k x.1.1 x.1.2.1 x.1.2.2.1 x.1.2.2.2.1 x.2.1.1 x.2.1.2.1 x.2.2.1.1 x.2.2.1.2.1⟩]
theorem span_Point.ok (k : Nat) : Okf (XR E) Try.prog 53 (span_Point.sig k) := ⟨fn_ok (C := fun k => tab.ctx fun f => lk f (span_Point.calls k)) (fun k => tie _) k (fun j hj => calls_ok (kc (tower_Add.ok j) (kn))) 400 Try.func53 (body := span_Point.body) (res := [.cell 4 27]) rfl (by kernel_rfl) span_Point.cuts (kc ⟨by kernel_rfl, rfl, fun _ => rfl, fun _ _ => by kernel_rfl⟩ (kc ⟨by kernel_rfl, rfl, fun _ => rfl, fun _ _ => by kernel_rfl⟩ (kn))) (fun x => by kernel_rfl), _, Try.func53, by kernel_rfl, by kernel_rfl⟩
/-! ### (*steeple/linpoly.Space).Point: function 22 -/
def linpoly_Space_Point.j2 : Nat → Int → Int → Option S27
  | 0, _, _ => none
  | k + 1, _, _ => some (⟨0, 0⟩ : S27)
def linpoly_Space_Point.f (k : Nat) (a0 : Option S80) (a1 : Int) : Option S27 := (match a0 with | none => linpoly_Space_Point.j2 k 0 0 | some _ => if a1 < 0 then linpoly_Space_Point.j2 k 0 0 else (match a0 with | none => none | some r0 => if 0 ≤ (r0.f1.length : Int) then (if a1 ≥ shl .i64 1 (r0.f1.length : Int) then linpoly_Space_Point.j2 k 0 0 else (match a0 with | none => none | some r1 => (span_Point.f k r1.f1 a1).bind fun r2 => some r2)) else none))
def linpoly_Space_Point.sig (k : Nat) : Sig E.toTys := ⟨[.ptr (.st 3), .int .i64], [(false, .st 0)], none, fun x => f k x.1 x.2.1⟩
noncomputable def linpoly_Space_Point.body : Code := Try.f22.body.getD .skip
def linpoly_Space_Point.calls (k : Nat) : List (Nat × Sig E.toTys) := [(53, span_Point.sig k)]
def linpoly_Space_Point.cuts : List (Cut E (RT E.toTys [(false, .st 0)])) := [⟨false, 2, ⟨cat (ds 4) (cat [.one (.ptr 0 0)] (ds 23)), [.var [.val (.int .u64), .val (.int .u64)]], false⟩, fun k x => linpoly_Space_Point.j2 k x.2.1.1 x.2.1.2.1⟩]
theorem linpoly_Space_Point.ok (k : Nat) : Okf (XR E) Try.prog 22 (linpoly_Space_Point.sig k) := ⟨fn_ok (C := fun k => tab.ctx fun f => lk f (linpoly_Space_Point.calls k)) (fun k => tie _) k (fun j hj => calls_ok (kc (span_Point.ok j) (kn))) 400 Try.func22 (body := linpoly_Space_Point.body) (res := [.cell 4 27]) rfl (by kernel_rfl) linpoly_Space_Point.cuts (kc ⟨by kernel_rfl, rfl, fun _ => rfl, fun _ _ => by kernel_rfl⟩ (kn)) (fun x => by kernel_rfl), _, Try.func22, by kernel_rfl, by kernel_rfl⟩
/-! ### (*steeple/linpoly.Space).Norm: function 60 -/
def linpoly_Space_Norm.j2 : Nat → Int → Int → Option S27
  | 0, _, _ => none
  | k + 1, _, _ => some (⟨0, 0⟩ : S27)
def linpoly_Space_Norm.f (k : Nat) (a0 : Option S80) (a1 : Int) (a2 : S27) : Option S27 := (match a0 with | none => linpoly_Space_Norm.j2 k 0 0 | some _ => if a1 < 0 then linpoly_Space_Norm.j2 k 0 0 else (match a0 with | none => none | some r0 => if a1 ≥ (r0.f1.length : Int) then linpoly_Space_Norm.j2 k 0 0 else (match a0 with | none => none | some r1 => (octet_Of.f k r1.f0 a2).bind fun r2 => if (!r2) = true then linpoly_Space_Norm.j2 k 0 0 else (match a0 with | none => none | some r3 => (linpoly_Space_value.f k a0 a1 a2).bind fun r4 => (match a0 with | none => none | some r5 => if 0 ≤ a1 then (if a1 < (r5.f3.length : Int) then ((tower_Mul.f k r3.f0 r4 (rd27 r5.f3 a1)).bind fun r6 => some r6) else none) else none)))))
def linpoly_Space_Norm.sig (k : Nat) : Sig E.toTys := ⟨[.ptr (.st 3), .int .i64, .st 0], [(false, .st 0)], none, fun x => f k x.1 x.2.1 x.2.2.1⟩
noncomputable def linpoly_Space_Norm.body : Code := Try.f60.body.getD .skip
def linpoly_Space_Norm.calls (k : Nat) : List (Nat × Sig E.toTys) := [(50, octet_Of.sig k), (76, linpoly_Space_value.sig k), (21, tower_Mul.sig k)]
def linpoly_Space_Norm.cuts : List (Cut E (RT E.toTys [(false, .st 0)])) := [⟨false, 2, ⟨cat (ds 6) (cat [.one (.ptr 0 0)] (ds 41)), [.var [.val (.int .u64), .val (.int .u64)]], false⟩, fun k x => linpoly_Space_Norm.j2 k x.2.1.1 x.2.1.2.1⟩]
theorem linpoly_Space_Norm.ok (k : Nat) : Okf (XR E) Try.prog 60 (linpoly_Space_Norm.sig k) := ⟨fn_ok (C := fun k => tab.ctx fun f => lk f (linpoly_Space_Norm.calls k)) (fun k => tie _) k (fun j hj => calls_ok (kc (octet_Of.ok j) (kc (linpoly_Space_value.ok j) (kc (tower_Mul.ok j) (kn))))) 400 Try.func60 (body := linpoly_Space_Norm.body) (res := [.cell 6 27]) rfl (by kernel_rfl) linpoly_Space_Norm.cuts (kc ⟨by kernel_rfl, rfl, fun _ => rfl, fun _ _ => by kernel_rfl⟩ (kn)) (fun x => by kernel_rfl), _, Try.func60, by kernel_rfl, by kernel_rfl⟩
/-! ### steeple/antt.twist: function 45 -/
def antt_twist.f (k : Nat) (a0 : Option S80) (a1 : Int) (a2 : Int) (a3 : S27) : Option S27 := if 0 ≤ wrap64 (a1 + 1) then ((linpoly_Space_Point.f k a0 (shl .i64 a2 (wrap64 (a1 + 1)))).bind fun r0 => (tower_Add.f k a3 r0).bind fun r1 => (linpoly_Space_Norm.f k a0 a1 r1).bind fun r2 => some r2) else none
def antt_twist.sig (k : Nat) : Sig E.toTys := ⟨[.ptr (.st 3), .int .i64, .int .i64, .st 0], [(false, .st 0)], none, fun x => f k x.1 x.2.1 x.2.2.1 x.2.2.2.1⟩
noncomputable def antt_twist.body : Code := Try.f45.body.getD .skip
def antt_twist.calls (k : Nat) : List (Nat × Sig E.toTys) := [(22, linpoly_Space_Point.sig k), (20, tower_Add.sig k), (60, linpoly_Space_Norm.sig k)]
def antt_twist.cuts : List (Cut E (RT E.toTys [(false, .st 0)])) := []
theorem antt_twist.ok (k : Nat) : Okf (XR E) Try.prog 45 (antt_twist.sig k) := ⟨fn_ok (C := fun k => tab.ctx fun f => lk f (antt_twist.calls k)) (fun k => tie _) k (fun j hj => calls_ok (kc (linpoly_Space_Point.ok j) (kc (tower_Add.ok j) (kc (linpoly_Space_Norm.ok j) (kn))))) 400 Try.func45 (body := antt_twist.body) (res := [.cell 8 27]) rfl (by kernel_rfl) antt_twist.cuts (kn) (fun x => by kernel_rfl), _, Try.func45, by kernel_rfl, by kernel_rfl⟩
/-! ### steeple/antt.Forward: function 14 -/
mutual
def antt_Forward.l6 : Nat → Option S80 → Int → Int → Int → List S27 → Option ((List S27) × Int)
  | 0, _, _, _, _, _ => none
  | k + 1, x0, x1, x2, x3, x4 => if x1 ≥ 0 then (if 0 ≤ x1 then (if wrap64 (2 * (shl .i64 1 x1)) = 0 then none else antt_Forward.l10 k x0 x1 (shl .i64 1 x1) (wrap64 (Int.tdiv (x4.length : Int) (wrap64 (2 * (shl .i64 1 x1))))) 0 x2 x3 x4) else none) else some (x4, 0)
def antt_Forward.l10 : Nat → Option S80 → Int → Int → Int → Int → Int → Int → List S27 → Option ((List S27) × Int)
  | 0, _, _, _, _, _, _, _, _ => none
  | k + 1, x0, x1, x2, x3, x4, x5, x6, x7 => if x4 < x3 then ((antt_twist.f k x0 x1 x4 (⟨x5, x6⟩ : S27)).bind fun r2 => antt_Forward.l14 k x0 x1 x2 x4 x3 x4 x2 0 x5 x6 x7 r2.f0 r2.f1) else antt_Forward.l6 k x0 (wrap64 (x1 - 1)) x5 x6 x7
def antt_Forward.l14 : Nat → Option S80 → Int → Int → Int → Int → Int → Int → Int → Int → Int → List S27 → Int → Int → Option ((List S27) × Int)
  | 0, _, _, _, _, _, _, _, _, _, _, _, _, _ => none
  | k + 1, x0, x1, x2, x3, x4, x5, x6, x7, x8, x9, x10, x11, x12 => if x7 < x6 then (if 0 ≤ wrap64 ((wrap64 ((wrap64 (2 * x2)) * x3)) + x7) then (if wrap64 ((wrap64 ((wrap64 (2 * x2)) * x3)) + x7) < (x10.length : Int) then ((linpoly_Space_Level.f k x0).bind fun r3 => if 0 ≤ wrap64 ((wrap64 ((wrap64 ((wrap64 (2 * x2)) * x3)) + x2)) + x7) then (if wrap64 ((wrap64 ((wrap64 ((wrap64 (2 * x2)) * x3)) + x2)) + x7) < (x10.length : Int) then ((tower_Mul.f k r3 (⟨x11, x12⟩ : S27) (rd27 x10 (wrap64 ((wrap64 ((wrap64 ((wrap64 (2 * x2)) * x3)) + x2)) + x7)))).bind fun r4 => (tower_Add.f k (rd27 x10 (wrap64 ((wrap64 ((wrap64 (2 * x2)) * x3)) + x7))) r4).bind fun r5 => if 0 ≤ wrap64 ((wrap64 ((wrap64 (2 * x2)) * x3)) + x7) then (if wrap64 ((wrap64 ((wrap64 (2 * x2)) * x3)) + x7) < (x10.length : Int) then (if 0 ≤ wrap64 ((wrap64 ((wrap64 (2 * x2)) * x3)) + x7) then (if wrap64 ((wrap64 ((wrap64 (2 * x2)) * x3)) + x7) < ((x10.set (Int.toNat (wrap64 ((wrap64 ((wrap64 (2 * x2)) * x3)) + x7))) r5).length : Int) then (if 0 ≤ wrap64 ((wrap64 ((wrap64 ((wrap64 (2 * x2)) * x3)) + x2)) + x7) then (if wrap64 ((wrap64 ((wrap64 ((wrap64 (2 * x2)) * x3)) + x2)) + x7) < ((x10.set (Int.toNat (wrap64 ((wrap64 ((wrap64 (2 * x2)) * x3)) + x7))) r5).length : Int) then ((tower_Add.f k (rd27 (x10.set (Int.toNat (wrap64 ((wrap64 ((wrap64 (2 * x2)) * x3)) + x7))) r5) (wrap64 ((wrap64 ((wrap64 (2 * x2)) * x3)) + x7))) (rd27 (x10.set (Int.toNat (wrap64 ((wrap64 ((wrap64 (2 * x2)) * x3)) + x7))) r5) (wrap64 ((wrap64 ((wrap64 ((wrap64 (2 * x2)) * x3)) + x2)) + x7)))).bind fun r6 => if 0 ≤ wrap64 ((wrap64 ((wrap64 ((wrap64 (2 * x2)) * x3)) + x2)) + x7) then (if wrap64 ((wrap64 ((wrap64 ((wrap64 (2 * x2)) * x3)) + x2)) + x7) < ((x10.set (Int.toNat (wrap64 ((wrap64 ((wrap64 (2 * x2)) * x3)) + x7))) r5).length : Int) then antt_Forward.l14 k x0 x1 x2 x3 x4 x5 x6 (wrap64 (x7 + 1)) x8 x9 ((x10.set (Int.toNat (wrap64 ((wrap64 ((wrap64 (2 * x2)) * x3)) + x7))) r5).set (Int.toNat (wrap64 ((wrap64 ((wrap64 ((wrap64 (2 * x2)) * x3)) + x2)) + x7))) r6) x11 x12 else none) else none) else none) else none) else none) else none) else none) else none) else none) else none) else none) else none) else antt_Forward.l10 k x0 x1 x2 x4 (wrap64 (x5 + 1)) x8 x9 x10
end
def antt_Forward.f (k : Nat) (a0 : Option S80) (a1 : List S27) (a2 : S27) : Option ((List S27) × Int) := (antt_ask.f k a0 a1 a2).bind fun r0 => if r0.2 = 0 then ((slices_Clone44.f k a1).bind fun r1 => antt_Forward.l6 k a0 (wrap64 (r0.1 - 1)) a2.f0 a2.f1 r1) else some ([], r0.2)
def antt_Forward.sig (k : Nat) : Sig E.toTys := ⟨[.ptr (.st 3), .slice (.st 0), .st 0], [(true, .slice (.st 0)), (false, .int .i64)], none, fun x => f k x.1 x.2.1 x.2.2.1⟩
noncomputable def antt_Forward.body : Code := Try.f14.body.getD .skip
def antt_Forward.calls (k : Nat) : List (Nat × Sig E.toTys) := [(43, antt_ask.sig k), (44, slices_Clone44.sig k), (45, antt_twist.sig k), (46, linpoly_Space_Level.sig k), (21, tower_Mul.sig k), (20, tower_Add.sig k)]
def antt_Forward.cuts : List (Cut E (RT E.toTys [(true, .slice (.st 0)), (false, .int .i64)])) := [⟨true, 6, ⟨cat [.one (.val (.ptr (.st 3)))] (cat (ds 4) (cat [.one (.ptr 0 0)] (cat (ds 4) (cat [.one (.ref 1), .one (.val (.int .i64))] (ds 88))))), [.var [.val (.int .u64), .val (.int .u64)], .arr (.st 0)], false⟩, fun k x => antt_Forward.l6 k x.1.1 x.1.2.1 x.2.1.1 x.2.1.2.1 x.2.2.1⟩,
  ⟨true, 10, ⟨cat [.one (.val (.ptr (.st 3)))] (cat (ds 4) (cat [.one (.ptr 0 0)] (cat (ds 4) (cat [.one (.ref 1), .one (.val (.int .i64)), .one (.val (.int .i64))] (cat (ds 29) (cat [.one (.val (.int .i64)), .one (.val (.int .i64))] (ds 56))))))), [.var [.val (.int .u64), .val (.int .u64)], .arr (.st 0)], false⟩, fun k x => antt_Forward.l10 k x.1.1 x.1.2.1 x.1.2.2.1 x.1.2.2.2.1 x.1.2.2.2.2.1 x.2.1.1 x.2.1.2.1 x.2.2.1⟩,
  ⟨true, 14, ⟨cat [.one (.val (.ptr (.st 3)))] (cat (ds 4) (cat [.one (.ptr 0 0)] (cat (ds 4) (cat [.one (.ref 1), .one (.val (.int .i64)), .one (.val (.int .i64)), .one (.val (.int .i64)), .one (.ptr 2 0)] (cat (ds 27) (cat [.one (.val (.int .i64)), .one (.val (.int .i64))] (cat (ds 7) (cat [.one (.val (.int .i64)), .one (.val (.int .i64))] (ds 47))))))))), [.var [.val (.int .u64), .val (.int .u64)], .arr (.st 0), .var [.val (.int .u64), .val (.int .u64)]], false⟩, fun k x => antt_Forward.l14 k x.1.1 x.1.2.1 x.1.2.2.1 x.1.2.2.2.1 x.1.2.2.2.2.1 x.1.2.2.2.2.2.1 x.1.2.2.2.2.2.2.1 x.1.2.2.2.2.2.2.2.1 x.2.1.1 x.2.1.2.1 x.2.2.1 x.2.2.2.1.1 x.2.2.2.1.2.1⟩]
theorem antt_Forward.ok (k : Nat) : Okf (XR E) Try.prog 14 (antt_Forward.sig k) := ⟨fn_ok (C := fun k => tab.ctx fun f => lk f (antt_Forward.calls k)) (fun k => tie _) k (fun j hj => calls_ok (kc (antt_ask.ok j) (kc (slices_Clone44.ok j) (kc (antt_twist.ok j) (kc (linpoly_Space_Level.ok j) (kc (tower_Mul.ok j) (kc (tower_Add.ok j) (kn)))))))) 400 Try.func14 (body := antt_Forward.body) (res := [.tmp 6, .tmp 7]) rfl (by kernel_rfl) antt_Forward.cuts (kc ⟨by kernel_rfl, rfl, fun _ => rfl, fun _ _ => by kernel_rfl⟩ (kc ⟨by kernel_rfl, rfl, fun _ => rfl, fun _ _ => by kernel_rfl⟩ (kc ⟨by kernel_rfl, rfl, fun _ => rfl, fun _ _ => by kernel_rfl⟩ (kn)))) (fun x => by kernel_rfl), _, Try.func14, by kernel_rfl, by kernel_rfl⟩
/-! ### steeple/steeplelaw07.awake: function 13 -/
def steeplelaw07_awake.f (k : Nat) : Option Bool := (linpoly_Plain.f k 2 2).bind fun r0 => (antt_Forward.f k r0.1 [(⟨0, 7⟩ : S27), (⟨0, 5⟩ : S27)] (⟨0, 0⟩ : S27)).bind fun r1 => if r0.2 = 0 then (if r1.2 = 0 then (if (r1.1.length : Int) = 2 then (if 0 < (r1.1.length : Int) then (if (rd27 r1.1 (0 : Int)).f0 = 0 ∧ (rd27 r1.1 (0 : Int)).f1 = 7 then (if 1 < (r1.1.length : Int) then some (decide ((rd27 r1.1 (1 : Int)).f0 = 0 ∧ (rd27 r1.1 (1 : Int)).f1 = 2)) else none) else some false) else none) else some false) else some false) else some false
def steeplelaw07_awake.sig (k : Nat) : Sig E.toTys := ⟨[], [(false, .bool)], none, fun x => f k⟩
noncomputable def steeplelaw07_awake.body : Code := Try.f13.body.getD .skip
def steeplelaw07_awake.calls (k : Nat) : List (Nat × Sig E.toTys) := [(42, linpoly_Plain.sig k), (14, antt_Forward.sig k)]
def steeplelaw07_awake.cuts : List (Cut E (RT E.toTys [(false, .bool)])) := []
theorem steeplelaw07_awake.ok (k : Nat) : Okf (XR E) Try.prog 13 (steeplelaw07_awake.sig k) := ⟨fn_ok (C := fun k => tab.ctx fun f => lk f (steeplelaw07_awake.calls k)) (fun k => tie _) k (fun j hj => calls_ok (kc (linpoly_Plain.ok j) (kc (antt_Forward.ok j) (kn)))) 400 Try.func13 (body := steeplelaw07_awake.body) (res := [.tmp 0]) rfl (by kernel_rfl) steeplelaw07_awake.cuts (kn) (fun x => by kernel_rfl), _, Try.func13, by kernel_rfl, by kernel_rfl⟩
/-! ### steeple/steeplelaw01.Ref: function 15 -/
def steeplelaw01_Ref.l3 : Nat → List S27 → Int → List S38 → Option (List S38)
  | 0, _, _, _ => none
  | k + 1, x0, x1, x2 => if x1 < (x0.length : Int) then (if 0 ≤ x1 then (if x1 < (x0.length : Int) then (if x2.length + [(⟨(rd27 x0 x1).f0, (rd27 x0 x1).f1⟩ : S38)].length ≤ 140737488355328 / 16 then steeplelaw01_Ref.l3 k x0 (wrap64 (x1 + 1)) (x2 ++ [(⟨(rd27 x0 x1).f0, (rd27 x0 x1).f1⟩ : S38)]) else none) else none) else none) else some x2
def steeplelaw01_Ref.f (k : Nat) (a0 : List S27) : Option (List S38) := steeplelaw01_Ref.l3 k a0 0 []
def steeplelaw01_Ref.sig (k : Nat) : Sig E.toTys := ⟨[.slice (.st 0)], [(true, .slice (.st 4))], none, fun x => f k x.1⟩
noncomputable def steeplelaw01_Ref.body : Code := Try.f15.body.getD .skip
def steeplelaw01_Ref.calls (k : Nat) : List (Nat × Sig E.toTys) := []
def steeplelaw01_Ref.cuts : List (Cut E (RT E.toTys [(true, .slice (.st 4))])) := [⟨true, 3, ⟨cat [.one (.val (.slice (.st 0)))] (cat (ds 2) (cat [.one (.ref 0), .one (.val (.int .i64))] (ds 14))), [.arr (.st 4)], false⟩, fun k x => steeplelaw01_Ref.l3 k x.1.1 x.1.2.1 x.2.1⟩]
theorem steeplelaw01_Ref.ok (k : Nat) : Okf (XR E) Try.prog 15 (steeplelaw01_Ref.sig k) := ⟨fn_ok (C := fun k => tab.ctx fun f => lk f (steeplelaw01_Ref.calls k)) (fun k => tie _) k (fun j hj => calls_ok (kn)) 400 Try.func15 (body := steeplelaw01_Ref.body) (res := [.tmp 2]) rfl (by kernel_rfl) steeplelaw01_Ref.cuts (kc ⟨by kernel_rfl, rfl, fun _ => rfl, fun _ _ => by kernel_rfl⟩ (kn)) (fun x => by kernel_rfl), _, Try.func15, by kernel_rfl, by kernel_rfl⟩
/-! ### steeple/steepleref07.Log: function 47 -/
def steepleref07_Log.l3 : Nat → Int → Int → Int → Option Int
  | 0, _, _, _ => none
  | k + 1, x0, x1, x2 => if x2 < 21 then (if x1 = x0 then some x2 else steepleref07_Log.l3 k x0 (wrap64 (2 * x1)) (wrap64 (x2 + 1))) else some (-1)
def steepleref07_Log.f (k : Nat) (a0 : Int) : Option Int := steepleref07_Log.l3 k a0 1 0
def steepleref07_Log.sig (k : Nat) : Sig E.toTys := ⟨[.int .i64], [(false, .int .i64)], none, fun x => f k x.1⟩
noncomputable def steepleref07_Log.body : Code := Try.f47.body.getD .skip
def steepleref07_Log.calls (k : Nat) : List (Nat × Sig E.toTys) := []
def steepleref07_Log.cuts : List (Cut E (RT E.toTys [(false, .int .i64)])) := [⟨true, 3, ⟨cat [.one (.val (.int .i64))] (cat (ds 2) (cat [.one (.val (.int .i64)), .one (.val (.int .i64))] (ds 10))), [], false⟩, fun k x => steepleref07_Log.l3 k x.1.1 x.1.2.1 x.1.2.2.1⟩]
theorem steepleref07_Log.ok (k : Nat) : Okf (XR E) Try.prog 47 (steepleref07_Log.sig k) := ⟨fn_ok (C := fun k => tab.ctx fun f => lk f (steepleref07_Log.calls k)) (fun k => tie _) k (fun j hj => calls_ok (kn)) 400 Try.func47 (body := steepleref07_Log.body) (res := [.tmp 2]) rfl (by kernel_rfl) steepleref07_Log.cuts (kc ⟨by kernel_rfl, rfl, fun _ => rfl, fun _ _ => by kernel_rfl⟩ (kn)) (fun x => by kernel_rfl), _, Try.func47, by kernel_rfl, by kernel_rfl⟩
/-! ### steeple/steepleref01.bit: function 49 -/
def steepleref01_bit.f (k : Nat) (a0 : S38) (a1 : Int) : Option Int := if a1 ≥ 64 then (if 0 ≤ IntKind.u64.wrap (wrap64 (a1 - 64)) then some (bits .and .u64 (shr .u64 a0.f0 (IntKind.u64.wrap (wrap64 (a1 - 64)))) 1) else none) else if 0 ≤ IntKind.u64.wrap a1 then some (bits .and .u64 (shr .u64 a0.f1 (IntKind.u64.wrap a1)) 1) else none
def steepleref01_bit.sig (k : Nat) : Sig E.toTys := ⟨[.st 4, .int .i64], [(false, .int .u64)], none, fun x => f k x.1 x.2.1⟩
noncomputable def steepleref01_bit.body : Code := Try.f49.body.getD .skip
def steepleref01_bit.calls (k : Nat) : List (Nat × Sig E.toTys) := []
def steepleref01_bit.cuts : List (Cut E (RT E.toTys [(false, .int .u64)])) := []
theorem steepleref01_bit.ok (k : Nat) : Okf (XR E) Try.prog 49 (steepleref01_bit.sig k) := ⟨fn_ok (C := fun k => tab.ctx fun f => lk f (steepleref01_bit.calls k)) (fun k => tie _) k (fun j hj => calls_ok (kn)) 400 Try.func49 (body := steepleref01_bit.body) (res := [.tmp 4]) rfl (by kernel_rfl) steepleref01_bit.cuts (kn) (fun x => by kernel_rfl), _, Try.func49, by kernel_rfl, by kernel_rfl⟩
/-! ### steeple/steepleref01.Of: function 19 -/
def steepleref01_Of.l5 : Nat → Int → Int → Int → Option Bool
  | 0, _, _, _ => none
  | k + 1, x0, x1, x2 => if x0 < 128 then ((steepleref01_bit.f k (⟨x1, x2⟩ : S38) x0).bind fun r0 => if r0 = 1 then some false else steepleref01_Of.l5 k (wrap64 (x0 + 1)) x1 x2) else some true
def steepleref01_Of.f (k : Nat) (a0 : Int) (a1 : S38) : Option Bool := if a0 < 0 then some false else if a0 > 7 then some false else if 0 ≤ a0 then (if a0 < ([1, 2, 4, 8, 16, 32, 64, 128].length : Int) then steepleref01_Of.l5 k (rdI [1, 2, 4, 8, 16, 32, 64, 128] a0) a1.f0 a1.f1 else none) else none
def steepleref01_Of.sig (k : Nat) : Sig E.toTys := ⟨[.int .i64, .st 4], [(false, .bool)], none, fun x => f k x.1 x.2.1⟩
noncomputable def steepleref01_Of.body : Code := Try.f19.body.getD .skip
def steepleref01_Of.calls (k : Nat) : List (Nat × Sig E.toTys) := [(49, steepleref01_bit.sig k)]
def steepleref01_Of.cuts : List (Cut E (RT E.toTys [(false, .bool)])) := [⟨true, 5, ⟨cat (ds 3) (cat [.one (.ptr 0 0)] (cat (ds 2) (cat [.one (.val (.int .i64))] (ds 19)))), [.var [.val (.int .u64), .val (.int .u64)]], false⟩, fun k x => steepleref01_Of.l5 k x.1.1 x.2.1.1 x.2.1.2.1⟩]
theorem steepleref01_Of.ok (k : Nat) : Okf (XR E) Try.prog 19 (steepleref01_Of.sig k) := ⟨fn_ok (C := fun k => tab.ctx fun f => lk f (steepleref01_Of.calls k)) (fun k => tie _) k (fun j hj => calls_ok (kc (steepleref01_bit.ok j) (kn))) 400 Try.func19 (body := steepleref01_Of.body) (res := [.tmp 4]) rfl (by kernel_rfl) steepleref01_Of.cuts (kc ⟨by kernel_rfl, rfl, fun _ => rfl, fun _ _ => by kernel_rfl⟩ (kn)) (fun x => by kernel_rfl), _, Try.func19, by kernel_rfl, by kernel_rfl⟩
/-! ### steeple/steepleref06.All: function 39 -/
def steepleref06_All.l2 : Nat → Int → List S38 → Int → Option Bool
  | 0, _, _, _ => none
  | k + 1, x0, x1, x2 => if x2 < (x1.length : Int) then (if 0 ≤ x2 then (if x2 < (x1.length : Int) then ((steepleref01_Of.f k x0 (rd38 x1 x2)).bind fun r0 => if (!r0) = true then some false else steepleref06_All.l2 k x0 x1 (wrap64 (x2 + 1))) else none) else none) else some true
def steepleref06_All.f (k : Nat) (a0 : Int) (a1 : List S38) : Option Bool := steepleref06_All.l2 k a0 a1 0
def steepleref06_All.sig (k : Nat) : Sig E.toTys := ⟨[.int .i64, .slice (.st 4)], [(false, .bool)], none, fun x => f k x.1 x.2.1⟩
noncomputable def steepleref06_All.body : Code := Try.f39.body.getD .skip
def steepleref06_All.calls (k : Nat) : List (Nat × Sig E.toTys) := [(19, steepleref01_Of.sig k)]
def steepleref06_All.cuts : List (Cut E (RT E.toTys [(false, .bool)])) := [⟨true, 2, ⟨cat [.one (.val (.int .i64)), .one (.val (.slice (.st 4)))] (cat (ds 3) (cat [.one (.val (.int .i64))] (ds 13))), [], false⟩, fun k x => steepleref06_All.l2 k x.1.1 x.1.2.1 x.1.2.2.1⟩]
theorem steepleref06_All.ok (k : Nat) : Okf (XR E) Try.prog 39 (steepleref06_All.sig k) := ⟨fn_ok (C := fun k => tab.ctx fun f => lk f (steepleref06_All.calls k)) (fun k => tie _) k (fun j hj => calls_ok (kc (steepleref01_Of.ok j) (kn))) 400 Try.func39 (body := steepleref06_All.body) (res := [.tmp 4]) rfl (by kernel_rfl) steepleref06_All.cuts (kc ⟨by kernel_rfl, rfl, fun _ => rfl, fun _ _ => by kernel_rfl⟩ (kn)) (fun x => by kernel_rfl), _, Try.func39, by kernel_rfl, by kernel_rfl⟩
/-! ### steeple/steepleref07.Check: function 16 -/
def steepleref07_Check.f (k : Nat) (a0 : Int) (a1 : List S38) (a2 : List S38) (a3 : S38) : Option Int := (steepleref07_Log.f k (a2.length : Int)).bind fun r0 => if r0 < 0 then some 6 else if r0 > (a1.length : Int) then some 6 else (steepleref06_All.f k a0 a2).bind fun r1 => if (!r1) = true then some 5 else (steepleref01_Of.f k a0 a3).bind fun r2 => if (!r2) = true then some 5 else some 0
def steepleref07_Check.sig (k : Nat) : Sig E.toTys := ⟨[.int .i64, .slice (.st 4), .slice (.st 4), .st 4], [(false, .int .i64)], none, fun x => f k x.1 x.2.1 x.2.2.1 x.2.2.2.1⟩
noncomputable def steepleref07_Check.body : Code := Try.f16.body.getD .skip
def steepleref07_Check.calls (k : Nat) : List (Nat × Sig E.toTys) := [(47, steepleref07_Log.sig k), (39, steepleref06_All.sig k), (19, steepleref01_Of.sig k)]
def steepleref07_Check.cuts : List (Cut E (RT E.toTys [(false, .int .i64)])) := []
theorem steepleref07_Check.ok (k : Nat) : Okf (XR E) Try.prog 16 (steepleref07_Check.sig k) := ⟨fn_ok (C := fun k => tab.ctx fun f => lk f (steepleref07_Check.calls k)) (fun k => tie _) k (fun j hj => calls_ok (kc (steepleref07_Log.ok j) (kc (steepleref06_All.ok j) (kc (steepleref01_Of.ok j) (kn))))) 400 Try.func16 (body := steepleref07_Check.body) (res := [.tmp 8]) rfl (by kernel_rfl) steepleref07_Check.cuts (kn) (fun x => by kernel_rfl), _, Try.func16, by kernel_rfl, by kernel_rfl⟩
/-! ### steeple/steepleref02.Add: function 57 -/
def steepleref02_Add.f (k : Nat) (a0 : S38) (a1 : S38) : Option S38 := some (⟨bits .xor .u64 a0.f0 a1.f0, bits .xor .u64 a0.f1 a1.f1⟩ : S38)
def steepleref02_Add.sig (k : Nat) : Sig E.toTys := ⟨[.st 4, .st 4], [(false, .st 4)], none, fun x => f k x.1 x.2.1⟩
noncomputable def steepleref02_Add.body : Code := Try.f57.body.getD .skip
def steepleref02_Add.calls (k : Nat) : List (Nat × Sig E.toTys) := []
def steepleref02_Add.cuts : List (Cut E (RT E.toTys [(false, .st 4)])) := []
theorem steepleref02_Add.ok (k : Nat) : Okf (XR E) Try.prog 57 (steepleref02_Add.sig k) := ⟨fn_ok (C := fun k => tab.ctx fun f => lk f (steepleref02_Add.calls k)) (fun k => tie _) k (fun j hj => calls_ok (kn)) 400 Try.func57 (body := steepleref02_Add.body) (res := [.cell 4 38]) rfl (by kernel_rfl) steepleref02_Add.cuts (kn) (fun x => by kernel_rfl), _, Try.func57, by kernel_rfl, by kernel_rfl⟩
/-! ### steeple/steepleref05.Points: function 48 -/
mutual
def steepleref05_Points.l3 : Nat → List S38 → Int → Int → List S38 → Option (List S38)
  | 0, _, _, _, _ => none
  | k + 1, x0, x1, x2, x3 => if x2 < x1 then steepleref05_Points.l7 k x0 x1 x2 (x3.length : Int) 0 x3 else some x3
def steepleref05_Points.l7 : Nat → List S38 → Int → Int → Int → Int → List S38 → Option (List S38)
  | 0, _, _, _, _, _, _ => none
  | k + 1, x0, x1, x2, x3, x4, x5 => if x4 < x3 then (if 0 ≤ x4 then (if x4 < (x5.length : Int) then (if 0 ≤ x2 then (if x2 < (x0.length : Int) then ((steepleref02_Add.f k (rd38 x5 x4) (rd38 x0 x2)).bind fun r0 => if x5.length + [r0].length ≤ 140737488355328 / 16 then steepleref05_Points.l7 k x0 x1 x2 x3 (wrap64 (x4 + 1)) (x5 ++ [r0]) else none) else none) else none) else none) else none) else steepleref05_Points.l3 k x0 x1 (wrap64 (x2 + 1)) x5
end
def steepleref05_Points.f (k : Nat) (a0 : List S38) (a1 : Int) (a2 : S38) : Option (List S38) := steepleref05_Points.l3 k a0 a1 0 [a2]
def steepleref05_Points.sig (k : Nat) : Sig E.toTys := ⟨[.slice (.st 4), .int .i64, .st 4], [(true, .slice (.st 4))], none, fun x => f k x.1 x.2.1 x.2.2.1⟩
noncomputable def steepleref05_Points.body : Code := Try.f48.body.getD .skip
def steepleref05_Points.calls (k : Nat) : List (Nat × Sig E.toTys) := [(57, steepleref02_Add.sig k)]
def steepleref05_Points.cuts : List (Cut E (RT E.toTys [(true, .slice (.st 4))])) := [⟨true, 3, ⟨cat [.one (.val (.slice (.st 4))), .one (.val (.int .i64))] (cat (ds 5) (cat [.one (.ref 0), .one (.val (.int .i64))] (ds 29))), [.arr (.st 4)], false⟩, fun k x => steepleref05_Points.l3 k x.1.1 x.1.2.1 x.1.2.2.1 x.2.1⟩,
  ⟨true, 7, ⟨cat [.one (.val (.slice (.st 4))), .one (.val (.int .i64))] (cat (ds 5) (cat [.one (.ref 0), .one (.val (.int .i64)), .one (.val (.int .i64)), .one (.val (.int .i64))] (ds 27))), [.arr (.st 4)], false⟩, fun k x => steepleref05_Points.l7 k x.1.1 x.1.2.1 x.1.2.2.1 x.1.2.2.2.1 x.1.2.2.2.2.1 x.2.1⟩]
theorem steepleref05_Points.ok (k : Nat) : Okf (XR E) Try.prog 48 (steepleref05_Points.sig k) := ⟨fn_ok (C := fun k => tab.ctx fun f => lk f (steepleref05_Points.calls k)) (fun k => tie _) k (fun j hj => calls_ok (kc (steepleref02_Add.ok j) (kn))) 400 Try.func48 (body := steepleref05_Points.body) (res := [.tmp 6]) rfl (by kernel_rfl) steepleref05_Points.cuts (kc ⟨by kernel_rfl, rfl, fun _ => rfl, fun _ _ => by kernel_rfl⟩ (kc ⟨by kernel_rfl, rfl, fun _ => rfl, fun _ _ => by kernel_rfl⟩ (kn))) (fun x => by kernel_rfl), _, Try.func48, by kernel_rfl, by kernel_rfl⟩
/-! ### steeple/steepleref02.Bit: function 86 -/
def steepleref02_Bit.f (k : Nat) (a0 : Int) : Option S38 := if a0 < 0 then some (⟨0, 0⟩ : S38) else if a0 > 127 then some (⟨0, 0⟩ : S38) else if a0 > 63 then (if 0 ≤ IntKind.u64.wrap (wrap64 (a0 - 64)) then some (⟨shl .u64 1 (IntKind.u64.wrap (wrap64 (a0 - 64))), 0⟩ : S38) else none) else if 0 ≤ IntKind.u64.wrap a0 then some (⟨0, shl .u64 1 (IntKind.u64.wrap a0)⟩ : S38) else none
def steepleref02_Bit.sig (k : Nat) : Sig E.toTys := ⟨[.int .i64], [(false, .st 4)], none, fun x => f k x.1⟩
noncomputable def steepleref02_Bit.body : Code := Try.f86.body.getD .skip
def steepleref02_Bit.calls (k : Nat) : List (Nat × Sig E.toTys) := []
def steepleref02_Bit.cuts : List (Cut E (RT E.toTys [(false, .st 4)])) := []
theorem steepleref02_Bit.ok (k : Nat) : Okf (XR E) Try.prog 86 (steepleref02_Bit.sig k) := ⟨fn_ok (C := fun k => tab.ctx fun f => lk f (steepleref02_Bit.calls k)) (fun k => tie _) k (fun j hj => calls_ok (kn)) 400 Try.func86 (body := steepleref02_Bit.body) (res := [.cell 2 38]) rfl (by kernel_rfl) steepleref02_Bit.cuts (kn) (fun x => by kernel_rfl), _, Try.func86, by kernel_rfl, by kernel_rfl⟩
/-! ### steeple/steepleref02.Has: function 74 -/
def steepleref02_Has.f (k : Nat) (a0 : S38) (a1 : Int) : Option Bool := (steepleref02_Bit.f k a1).bind fun r0 => some (!decide (bits .or .u64 (bits .and .u64 a0.f1 r0.f1) (bits .and .u64 a0.f0 r0.f0) = 0))
def steepleref02_Has.sig (k : Nat) : Sig E.toTys := ⟨[.st 4, .int .i64], [(false, .bool)], none, fun x => f k x.1 x.2.1⟩
noncomputable def steepleref02_Has.body : Code := Try.f74.body.getD .skip
def steepleref02_Has.calls (k : Nat) : List (Nat × Sig E.toTys) := [(86, steepleref02_Bit.sig k)]
def steepleref02_Has.cuts : List (Cut E (RT E.toTys [(false, .bool)])) := []
theorem steepleref02_Has.ok (k : Nat) : Okf (XR E) Try.prog 74 (steepleref02_Has.sig k) := ⟨fn_ok (C := fun k => tab.ctx fun f => lk f (steepleref02_Has.calls k)) (fun k => tie _) k (fun j hj => calls_ok (kc (steepleref02_Bit.ok j) (kn))) 400 Try.func74 (body := steepleref02_Has.body) (res := [.tmp 4]) rfl (by kernel_rfl) steepleref02_Has.cuts (kn) (fun x => by kernel_rfl), _, Try.func74, by kernel_rfl, by kernel_rfl⟩
/-! ### steeple/steepleref02.mask: function 93 -/
def steepleref02_mask.f (k : Nat) (a0 : Int) : Option Int := if 0 ≤ a0 then (if a0 < ([6148914691236517205, 3689348814741910323, 1085102592571150095, 71777214294589695, 281470681808895, 4294967295].length : Int) then some (rdI [6148914691236517205, 3689348814741910323, 1085102592571150095, 71777214294589695, 281470681808895, 4294967295] a0) else none) else none
def steepleref02_mask.sig (k : Nat) : Sig E.toTys := ⟨[.int .i64], [(false, .int .u64)], none, fun x => f k x.1⟩
noncomputable def steepleref02_mask.body : Code := Try.f93.body.getD .skip
def steepleref02_mask.calls (k : Nat) : List (Nat × Sig E.toTys) := []
def steepleref02_mask.cuts : List (Cut E (RT E.toTys [(false, .int .u64)])) := []
theorem steepleref02_mask.ok (k : Nat) : Okf (XR E) Try.prog 93 (steepleref02_mask.sig k) := ⟨fn_ok (C := fun k => tab.ctx fun f => lk f (steepleref02_mask.calls k)) (fun k => tie _) k (fun j hj => calls_ok (kn)) 400 Try.func93 (body := steepleref02_mask.body) (res := [.tmp 2]) rfl (by kernel_rfl) steepleref02_mask.cuts (kn) (fun x => by kernel_rfl), _, Try.func93, by kernel_rfl, by kernel_rfl⟩
/-! ### steeple/steepleref02.timesWord: function 87 -/
def steepleref02_timesWord.f : Nat → Int → Int → Option Int
  | 0, _, _ => none
  | k + 1, a0, a1 => if a0 < 0 then some a1 else if 0 ≤ IntKind.u64.wrap a0 then (if 0 ≤ shl .u64 1 (IntKind.u64.wrap a0) then ((steepleref02_mask.f k a0).bind fun r0 => (steepleref02_mask.f k a0).bind fun r1 => (steepleref02_timesWord.f k (wrap64 (a0 - 1)) (bits .and .u64 (shr .u64 a1 (shl .u64 1 (IntKind.u64.wrap a0))) r0)).bind fun r2 => if 0 ≤ shl .u64 1 (IntKind.u64.wrap a0) then some (bits .or .u64 (shl .u64 (bits .xor .u64 (bits .and .u64 a1 r1) r2) (shl .u64 1 (IntKind.u64.wrap a0))) (bits .and .u64 (shr .u64 a1 (shl .u64 1 (IntKind.u64.wrap a0))) r0)) else none) else none) else none
def steepleref02_timesWord.sig (k : Nat) : Sig E.toTys := ⟨[.int .i64, .int .u64], [(false, .int .u64)], none, fun x => f k x.1 x.2.1⟩
noncomputable def steepleref02_timesWord.body : Code := Try.f87.body.getD .skip
def steepleref02_timesWord.calls (k : Nat) : List (Nat × Sig E.toTys) := [(93, steepleref02_mask.sig k), (87, steepleref02_timesWord.sig k)]
def steepleref02_timesWord.cuts : List (Cut E (RT E.toTys [(false, .int .u64)])) := []
theorem steepleref02_timesWord.oks (k : Nat) : Okf (XR E) Try.prog 87 (steepleref02_timesWord.sig k) := by
  induction k using Nat.strongRecOn with
  | ind k ih =>
  cases k with
  | zero => exact ⟨ok0 fun _ => rfl, _, Try.func87, by kernel_rfl, by kernel_rfl⟩
  | succ k => exact ⟨fn_ok (C := fun k => tab.ctx fun f => lk f (steepleref02_timesWord.calls k)) (fun k => tie _) k (fun j hj => calls_ok (kc (steepleref02_mask.ok j) (kc (ih j (Nat.lt_succ_of_le hj)) (kn)))) 400 Try.func87 (body := steepleref02_timesWord.body) (res := [.tmp 4]) rfl (by kernel_rfl) steepleref02_timesWord.cuts (kn) (fun x => by kernel_rfl), _, Try.func87, by kernel_rfl, by kernel_rfl⟩
theorem steepleref02_timesWord.ok (k : Nat) : Okf (XR E) Try.prog 87 (steepleref02_timesWord.sig k) := (steepleref02_timesWord.oks k)
/-! ### steeple/steepleref02.Times: function 75 -/
def steepleref02_Times.f (k : Nat) (a0 : Int) (a1 : S38) : Option S38 := if a0 < 6 then ((steepleref02_timesWord.f k a0 a1.f0).bind fun r0 => (steepleref02_timesWord.f k a0 a1.f1).bind fun r1 => some (⟨r0, r1⟩ : S38)) else (steepleref02_timesWord.f k 5 a1.f0).bind fun r2 => some (⟨bits .xor .u64 a1.f1 r2, a1.f0⟩ : S38)
def steepleref02_Times.sig (k : Nat) : Sig E.toTys := ⟨[.int .i64, .st 4], [(false, .st 4)], none, fun x => f k x.1 x.2.1⟩
noncomputable def steepleref02_Times.body : Code := Try.f75.body.getD .skip
def steepleref02_Times.calls (k : Nat) : List (Nat × Sig E.toTys) := [(87, steepleref02_timesWord.sig k)]
def steepleref02_Times.cuts : List (Cut E (RT E.toTys [(false, .st 4)])) := []
theorem steepleref02_Times.ok (k : Nat) : Okf (XR E) Try.prog 75 (steepleref02_Times.sig k) := ⟨fn_ok (C := fun k => tab.ctx fun f => lk f (steepleref02_Times.calls k)) (fun k => tie _) k (fun j hj => calls_ok (kc (steepleref02_timesWord.ok j) (kn))) 400 Try.func75 (body := steepleref02_Times.body) (res := [.cell 4 38]) rfl (by kernel_rfl) steepleref02_Times.cuts (kn) (fun x => by kernel_rfl), _, Try.func75, by kernel_rfl, by kernel_rfl⟩
/-! ### steeple/steepleref02.Product: function 58 -/
mutual
def steepleref02_Product.l3 : Nat → Int → Int → Int → Int → Int → Int → Int → Int → Int → Option S38
  | 0, _, _, _, _, _, _, _, _, _ => none
  | k + 1, x0, x1, x2, x3, x4, x5, x6, x7, x8 => if x0 < 128 then ((steepleref02_Has.f k (⟨x3, x4⟩ : S38) x0).bind fun r0 => if (!r0) = true then steepleref02_Product.l3 k (wrap64 (x0 + 1)) x1 x2 x3 x4 x5 x6 x7 x8 else steepleref02_Product.l8 k x0 0 x1 x2 x3 x4 x5 x6 x7 x8 x1 x2) else some (⟨x7, x8⟩ : S38)
def steepleref02_Product.l8 : Nat → Int → Int → Int → Int → Int → Int → Int → Int → Int → Int → Int → Int → Option S38
  | 0, _, _, _, _, _, _, _, _, _, _, _, _ => none
  | k + 1, x0, x1, x2, x3, x4, x5, x6, x7, x8, x9, x10, x11 => if x1 < 7 then (if 0 ≤ IntKind.u64.wrap x1 then (if bits .and .i64 (shr .i64 x0 (IntKind.u64.wrap x1)) 1 = 1 then ((steepleref02_Times.f k x1 (⟨x10, x11⟩ : S38)).bind fun r1 => steepleref02_Product.l8 k x0 (wrap64 (x1 + 1)) x2 x3 x4 x5 x6 x7 x8 x9 r1.f0 r1.f1) else steepleref02_Product.l8 k x0 (wrap64 (x1 + 1)) x2 x3 x4 x5 x6 x7 x8 x9 x10 x11) else none) else (steepleref02_Add.f k (⟨x8, x9⟩ : S38) (⟨x10, x11⟩ : S38)).bind fun r2 => steepleref02_Product.l3 k (wrap64 (x0 + 1)) x2 x3 x4 x5 x6 x7 r2.f0 r2.f1
end
def steepleref02_Product.f (k : Nat) (a0 : S38) (a1 : S38) : Option S38 := steepleref02_Product.l3 k 0 a0.f0 a0.f1 a1.f0 a1.f1 0 0 0 0
def steepleref02_Product.sig (k : Nat) : Sig E.toTys := ⟨[.st 4, .st 4], [(false, .st 4)], none, fun x => f k x.1 x.2.1⟩
noncomputable def steepleref02_Product.body : Code := Try.f58.body.getD .skip
def steepleref02_Product.calls (k : Nat) : List (Nat × Sig E.toTys) := [(74, steepleref02_Has.sig k), (75, steepleref02_Times.sig k), (57, steepleref02_Add.sig k)]
def steepleref02_Product.cuts : List (Cut E (RT E.toTys [(false, .st 4)])) := [⟨true, 3, ⟨cat (ds 2) (cat [.one (.ptr 0 0), .one (.ptr 1 0), .one (.ptr 2 0), .one (.ptr 3 0), .one (.val (.int .i64))] (ds 28)), [.var [.val (.int .u64), .val (.int .u64)], .var [.val (.int .u64), .val (.int .u64)], .var [.val (.int .u64), .val (.int .u64)], .var [.val (.int .u64), .val (.int .u64)]], false⟩, fun k x => steepleref02_Product.l3 k x.1.1 x.2.1.1 x.2.1.2.1 x.2.2.1.1 x.2.2.1.2.1 x.2.2.2.1.1 x.2.2.2.1.2.1 x.2.2.2.2.1.1 x.2.2.2.2.1.2.1⟩,
  ⟨true, 8, ⟨cat (ds 2) (cat [.one (.ptr 0 0), .one (.ptr 1 0), .one (.ptr 2 0), .one (.ptr 3 0), .one (.val (.int .i64)), .one (.ptr 4 0), .one (.val (.int .i64))] (ds 26)), [.var [.val (.int .u64), .val (.int .u64)], .var [.val (.int .u64), .val (.int .u64)], .var [.val (.int .u64), .val (.int .u64)], .var [.val (.int .u64), .val (.int .u64)], .var [.val (.int .u64), .val (.int .u64)]], false⟩, fun k x => steepleref02_Product.l8 k x.1.1 x.1.2.1 x.2.1.1 x.2.1.2.1 x.2.2.1.1 x.2.2.1.2.1 x.2.2.2.1.1 x.2.2.2.1.2.1 x.2.2.2.2.1.1 x.2.2.2.2.1.2.1 x.2.2.2.2.2.1.1 x.2.2.2.2.2.1.2.1⟩]
theorem steepleref02_Product.ok (k : Nat) : Okf (XR E) Try.prog 58 (steepleref02_Product.sig k) := ⟨fn_ok (C := fun k => tab.ctx fun f => lk f (steepleref02_Product.calls k)) (fun k => tie _) k (fun j hj => calls_ok (kc (steepleref02_Has.ok j) (kc (steepleref02_Times.ok j) (kc (steepleref02_Add.ok j) (kn))))) 400 Try.func58 (body := steepleref02_Product.body) (res := [.cell 4 38]) rfl (by kernel_rfl) steepleref02_Product.cuts (kc ⟨by kernel_rfl, rfl, fun _ => rfl, fun _ _ => by kernel_rfl⟩ (kc ⟨by kernel_rfl, rfl, fun _ => rfl, fun _ _ => by kernel_rfl⟩ (kn))) (fun x => by kernel_rfl), _, Try.func58, by kernel_rfl, by kernel_rfl⟩
/-! ### steeple/steepleref05.Value: function 77 -/
def steepleref05_Value.l5 : Nat → Int → Int → Int → Int → Int → List S38 → Int → Int → Option S38
  | 0, _, _, _, _, _, _, _, _ => none
  | k + 1, x0, x1, x2, x3, x4, x5, x6, x7 => if x0 < (x5.length : Int) then (if 0 ≤ x0 then (if x0 < (x5.length : Int) then ((steepleref02_Add.f k (⟨x1, x2⟩ : S38) (rd38 x5 x0)).bind fun r1 => (steepleref02_Product.f k (⟨x6, x7⟩ : S38) r1).bind fun r2 => steepleref05_Value.l5 k (wrap64 (x0 + 1)) x1 x2 x3 x4 x5 r2.f0 r2.f1) else none) else none) else some (⟨x6, x7⟩ : S38)
def steepleref05_Value.f (k : Nat) (a0 : List S38) (a1 : Int) (a2 : S38) : Option S38 := (steepleref05_Points.f k a0 a1 (⟨0, 0⟩ : S38)).bind fun r0 => steepleref05_Value.l5 k 0 a2.f0 a2.f1 0 0 r0 0 1
def steepleref05_Value.sig (k : Nat) : Sig E.toTys := ⟨[.slice (.st 4), .int .i64, .st 4], [(false, .st 4)], none, fun x => f k x.1 x.2.1 x.2.2.1⟩
noncomputable def steepleref05_Value.body : Code := Try.f77.body.getD .skip
def steepleref05_Value.calls (k : Nat) : List (Nat × Sig E.toTys) := [(48, steepleref05_Points.sig k), (57, steepleref02_Add.sig k), (58, steepleref02_Product.sig k)]
def steepleref05_Value.cuts : List (Cut E (RT E.toTys [(false, .st 4)])) := [⟨true, 5, ⟨cat (ds 5) (cat [.one (.ptr 0 0), .one (.ptr 1 0)] (cat (ds 1) (cat [.one (.ref 2), .one (.ptr 3 0), .one (.val (.int .i64))] (ds 20)))), [.var [.val (.int .u64), .val (.int .u64)], .var [.val (.int .u64), .val (.int .u64)], .arr (.st 4), .var [.val (.int .u64), .val (.int .u64)]], false⟩, fun k x => steepleref05_Value.l5 k x.1.1 x.2.1.1 x.2.1.2.1 x.2.2.1.1 x.2.2.1.2.1 x.2.2.2.1 x.2.2.2.2.1.1 x.2.2.2.2.1.2.1⟩]
theorem steepleref05_Value.ok (k : Nat) : Okf (XR E) Try.prog 77 (steepleref05_Value.sig k) := ⟨fn_ok (C := fun k => tab.ctx fun f => lk f (steepleref05_Value.calls k)) (fun k => tie _) k (fun j hj => calls_ok (kc (steepleref05_Points.ok j) (kc (steepleref02_Add.ok j) (kc (steepleref02_Product.ok j) (kn))))) 400 Try.func77 (body := steepleref05_Value.body) (res := [.cell 6 38]) rfl (by kernel_rfl) steepleref05_Value.cuts (kc ⟨by kernel_rfl, rfl, fun _ => rfl, fun _ _ => by kernel_rfl⟩ (kn)) (fun x => by kernel_rfl), _, Try.func77, by kernel_rfl, by kernel_rfl⟩
/-! ### steeple/steepleref02.Inv: function 78 -/
def steepleref02_Inv.l9 : Nat → Int → Int → Int → Int → List Int → Int → Int → Int → Int → Option S38
  | 0, _, _, _, _, _, _, _, _, _ => none
  | k + 1, x0, x1, x2, x3, x4, x5, x6, x7, x8 => if 0 ≤ x0 then (if x0 < (x4.length : Int) then (if x1 < rdI x4 x0 then ((steepleref02_Product.f k (⟨x7, x8⟩ : S38) (⟨x7, x8⟩ : S38)).bind fun r1 => (steepleref02_Product.f k (⟨x5, x6⟩ : S38) r1).bind fun r2 => steepleref02_Inv.l9 k x0 (wrap64 (x1 + 1)) x2 x3 x4 r2.f0 r2.f1 r1.f0 r1.f1) else some (⟨x5, x6⟩ : S38)) else none) else none
def steepleref02_Inv.f (k : Nat) (a0 : Int) (a1 : S38) : Option S38 := (steepleref01_Of.f k a0 a1).bind fun r0 => if (!r0) = true then some (⟨0, 0⟩ : S38) else if a0 = 0 then some a1 else steepleref02_Inv.l9 k a0 1 0 0 [1, 2, 4, 8, 16, 32, 64, 128] 0 1 a1.f0 a1.f1
def steepleref02_Inv.sig (k : Nat) : Sig E.toTys := ⟨[.int .i64, .st 4], [(false, .st 4)], none, fun x => f k x.1 x.2.1⟩
noncomputable def steepleref02_Inv.body : Code := Try.f78.body.getD .skip
def steepleref02_Inv.calls (k : Nat) : List (Nat × Sig E.toTys) := [(19, steepleref01_Of.sig k), (58, steepleref02_Product.sig k)]
def steepleref02_Inv.cuts : List (Cut E (RT E.toTys [(false, .st 4)])) := [⟨true, 9, ⟨cat [.one (.val (.int .i64))] (cat (ds 3) (cat [.one (.ptr 0 0), .one (.ref 1), .one (.ptr 2 0), .one (.ptr 3 0), .one (.val (.int .i64))] (ds 26))), [.var [.val (.int .u64), .val (.int .u64)], .arr (.int .i64), .var [.val (.int .u64), .val (.int .u64)], .var [.val (.int .u64), .val (.int .u64)]], false⟩, fun k x => steepleref02_Inv.l9 k x.1.1 x.1.2.1 x.2.1.1 x.2.1.2.1 x.2.2.1 x.2.2.2.1.1 x.2.2.2.1.2.1 x.2.2.2.2.1.1 x.2.2.2.2.1.2.1⟩]
theorem steepleref02_Inv.ok (k : Nat) : Okf (XR E) Try.prog 78 (steepleref02_Inv.sig k) := ⟨fn_ok (C := fun k => tab.ctx fun f => lk f (steepleref02_Inv.calls k)) (fun k => tie _) k (fun j hj => calls_ok (kc (steepleref01_Of.ok j) (kc (steepleref02_Product.ok j) (kn)))) 400 Try.func78 (body := steepleref02_Inv.body) (res := [.cell 4 38]) rfl (by kernel_rfl) steepleref02_Inv.cuts (kc ⟨by kernel_rfl, rfl, fun _ => rfl, fun _ _ => by kernel_rfl⟩ (kn)) (fun x => by kernel_rfl), _, Try.func78, by kernel_rfl, by kernel_rfl⟩
/-! ### steeple/steepleref05.Norm: function 61 -/
def steepleref05_Norm.f (k : Nat) (a0 : Int) (a1 : List S38) (a2 : Int) (a3 : S38) : Option S38 := (steepleref05_Value.f k a1 a2 a3).bind fun r0 => if 0 ≤ a2 then (if a2 < (a1.length : Int) then ((steepleref05_Value.f k a1 a2 (rd38 a1 a2)).bind fun r1 => (steepleref02_Inv.f k a0 r1).bind fun r2 => (steepleref02_Product.f k r0 r2).bind fun r3 => some r3) else none) else none
def steepleref05_Norm.sig (k : Nat) : Sig E.toTys := ⟨[.int .i64, .slice (.st 4), .int .i64, .st 4], [(false, .st 4)], none, fun x => f k x.1 x.2.1 x.2.2.1 x.2.2.2.1⟩
noncomputable def steepleref05_Norm.body : Code := Try.f61.body.getD .skip
def steepleref05_Norm.calls (k : Nat) : List (Nat × Sig E.toTys) := [(77, steepleref05_Value.sig k), (78, steepleref02_Inv.sig k), (58, steepleref02_Product.sig k)]
def steepleref05_Norm.cuts : List (Cut E (RT E.toTys [(false, .st 4)])) := []
theorem steepleref05_Norm.ok (k : Nat) : Okf (XR E) Try.prog 61 (steepleref05_Norm.sig k) := ⟨fn_ok (C := fun k => tab.ctx fun f => lk f (steepleref05_Norm.calls k)) (fun k => tie _) k (fun j hj => calls_ok (kc (steepleref05_Value.ok j) (kc (steepleref02_Inv.ok j) (kc (steepleref02_Product.ok j) (kn))))) 400 Try.func61 (body := steepleref05_Norm.body) (res := [.cell 8 38]) rfl (by kernel_rfl) steepleref05_Norm.cuts (kn) (fun x => by kernel_rfl), _, Try.func61, by kernel_rfl, by kernel_rfl⟩
/-! ### steeple/steepleref06.Basis: function 34 -/
def steepleref06_Basis.l4 : Nat → Int → List S38 → Int → Int → Int → Int → Int → Int → Int → Int → Option S38
  | 0, _, _, _, _, _, _, _, _, _, _ => none
  | k + 1, x0, x1, x2, x3, x4, x5, x6, x7, x8, x9 => if x3 < (x1.length : Int) then (if Int.tmod x2 2 = 1 then ((steepleref05_Norm.f k x0 x1 x3 (⟨x4, x5⟩ : S38)).bind fun r0 => (steepleref02_Product.f k (⟨x8, x9⟩ : S38) r0).bind fun r1 => steepleref06_Basis.l4 k x0 x1 (wrap64 (Int.tdiv x2 2)) (wrap64 (x3 + 1)) x4 x5 x6 x7 r1.f0 r1.f1) else steepleref06_Basis.l4 k x0 x1 (wrap64 (Int.tdiv x2 2)) (wrap64 (x3 + 1)) x4 x5 x6 x7 x8 x9) else some (⟨x8, x9⟩ : S38)
def steepleref06_Basis.f (k : Nat) (a0 : Int) (a1 : List S38) (a2 : Int) (a3 : S38) : Option S38 := steepleref06_Basis.l4 k a0 a1 a2 0 a3.f0 a3.f1 0 0 0 1
def steepleref06_Basis.sig (k : Nat) : Sig E.toTys := ⟨[.int .i64, .slice (.st 4), .int .i64, .st 4], [(false, .st 4)], none, fun x => f k x.1 x.2.1 x.2.2.1 x.2.2.2.1⟩
noncomputable def steepleref06_Basis.body : Code := Try.f34.body.getD .skip
def steepleref06_Basis.calls (k : Nat) : List (Nat × Sig E.toTys) := [(61, steepleref05_Norm.sig k), (58, steepleref02_Product.sig k)]
def steepleref06_Basis.cuts : List (Cut E (RT E.toTys [(false, .st 4)])) := [⟨true, 4, ⟨cat [.one (.val (.int .i64)), .one (.val (.slice (.st 4)))] (cat (ds 5) (cat [.one (.ptr 0 0), .one (.ptr 1 0), .one (.ptr 2 0), .one (.val (.int .i64)), .one (.val (.int .i64))] (ds 21))), [.var [.val (.int .u64), .val (.int .u64)], .var [.val (.int .u64), .val (.int .u64)], .var [.val (.int .u64), .val (.int .u64)]], false⟩, fun k x => steepleref06_Basis.l4 k x.1.1 x.1.2.1 x.1.2.2.1 x.1.2.2.2.1 x.2.1.1 x.2.1.2.1 x.2.2.1.1 x.2.2.1.2.1 x.2.2.2.1.1 x.2.2.2.1.2.1⟩]
theorem steepleref06_Basis.ok (k : Nat) : Okf (XR E) Try.prog 34 (steepleref06_Basis.sig k) := ⟨fn_ok (C := fun k => tab.ctx fun f => lk f (steepleref06_Basis.calls k)) (fun k => tie _) k (fun j hj => calls_ok (kc (steepleref05_Norm.ok j) (kc (steepleref02_Product.ok j) (kn)))) 400 Try.func34 (body := steepleref06_Basis.body) (res := [.cell 8 38]) rfl (by kernel_rfl) steepleref06_Basis.cuts (kc ⟨by kernel_rfl, rfl, fun _ => rfl, fun _ _ => by kernel_rfl⟩ (kn)) (fun x => by kernel_rfl), _, Try.func34, by kernel_rfl, by kernel_rfl⟩
/-! ### steeple/steepleref06.Eval: function 36 -/
def steepleref06_Eval.l3 : Nat → Int → List S38 → List S38 → Int → Int → Int → Int → Int → Int → Int → Option S38
  | 0, _, _, _, _, _, _, _, _, _, _ => none
  | k + 1, x0, x1, x2, x3, x4, x5, x6, x7, x8, x9 => if x3 < (x2.length : Int) then (if 0 ≤ x3 then (if x3 < (x2.length : Int) then ((steepleref06_Basis.f k x0 x1 x3 (⟨x4, x5⟩ : S38)).bind fun r0 => (steepleref02_Product.f k (rd38 x2 x3) r0).bind fun r1 => (steepleref02_Add.f k (⟨x8, x9⟩ : S38) r1).bind fun r2 => steepleref06_Eval.l3 k x0 x1 x2 (wrap64 (x3 + 1)) x4 x5 x6 x7 r2.f0 r2.f1) else none) else none) else some (⟨x8, x9⟩ : S38)
def steepleref06_Eval.f (k : Nat) (a0 : Int) (a1 : List S38) (a2 : List S38) (a3 : S38) : Option S38 := steepleref06_Eval.l3 k a0 a1 a2 0 a3.f0 a3.f1 0 0 0 0
def steepleref06_Eval.sig (k : Nat) : Sig E.toTys := ⟨[.int .i64, .slice (.st 4), .slice (.st 4), .st 4], [(false, .st 4)], none, fun x => f k x.1 x.2.1 x.2.2.1 x.2.2.2.1⟩
noncomputable def steepleref06_Eval.body : Code := Try.f36.body.getD .skip
def steepleref06_Eval.calls (k : Nat) : List (Nat × Sig E.toTys) := [(34, steepleref06_Basis.sig k), (58, steepleref02_Product.sig k), (57, steepleref02_Add.sig k)]
def steepleref06_Eval.cuts : List (Cut E (RT E.toTys [(false, .st 4)])) := [⟨true, 3, ⟨cat [.one (.val (.int .i64)), .one (.val (.slice (.st 4))), .one (.val (.slice (.st 4)))] (cat (ds 4) (cat [.one (.ptr 0 0), .one (.ptr 1 0), .one (.ptr 2 0), .one (.val (.int .i64))] (ds 19))), [.var [.val (.int .u64), .val (.int .u64)], .var [.val (.int .u64), .val (.int .u64)], .var [.val (.int .u64), .val (.int .u64)]], false⟩, fun k x => steepleref06_Eval.l3 k x.1.1 x.1.2.1 x.1.2.2.1 x.1.2.2.2.1 x.2.1.1 x.2.1.2.1 x.2.2.1.1 x.2.2.1.2.1 x.2.2.2.1.1 x.2.2.2.1.2.1⟩]
theorem steepleref06_Eval.ok (k : Nat) : Okf (XR E) Try.prog 36 (steepleref06_Eval.sig k) := ⟨fn_ok (C := fun k => tab.ctx fun f => lk f (steepleref06_Eval.calls k)) (fun k => tie _) k (fun j hj => calls_ok (kc (steepleref06_Basis.ok j) (kc (steepleref02_Product.ok j) (kc (steepleref02_Add.ok j) (kn))))) 400 Try.func36 (body := steepleref06_Eval.body) (res := [.cell 8 38]) rfl (by kernel_rfl) steepleref06_Eval.cuts (kc ⟨by kernel_rfl, rfl, fun _ => rfl, fun _ _ => by kernel_rfl⟩ (kn)) (fun x => by kernel_rfl), _, Try.func36, by kernel_rfl, by kernel_rfl⟩
/-! ### steeple/steepleref07.Values: function 18 -/
def steepleref07_Values.l4 : Nat → Int → List S38 → List S38 → Int → List S38 → List S38 → Option (List S38)
  | 0, _, _, _, _, _, _ => none
  | k + 1, x0, x1, x2, x3, x4, x5 => if x3 < (x4.length : Int) then (if 0 ≤ x3 then (if x3 < (x4.length : Int) then ((steepleref06_Eval.f k x0 x1 x2 (rd38 x4 x3)).bind fun r2 => if x5.length + [r2].length ≤ 140737488355328 / 16 then steepleref07_Values.l4 k x0 x1 x2 (wrap64 (x3 + 1)) x4 (x5 ++ [r2]) else none) else none) else none) else some x5
def steepleref07_Values.f (k : Nat) (a0 : Int) (a1 : List S38) (a2 : List S38) (a3 : S38) : Option (List S38) := (steepleref07_Log.f k (a2.length : Int)).bind fun r0 => (steepleref05_Points.f k a1 r0 a3).bind fun r1 => steepleref07_Values.l4 k a0 a1 a2 0 r1 []
def steepleref07_Values.sig (k : Nat) : Sig E.toTys := ⟨[.int .i64, .slice (.st 4), .slice (.st 4), .st 4], [(true, .slice (.st 4))], none, fun x => f k x.1 x.2.1 x.2.2.1 x.2.2.2.1⟩
noncomputable def steepleref07_Values.body : Code := Try.f18.body.getD .skip
def steepleref07_Values.calls (k : Nat) : List (Nat × Sig E.toTys) := [(47, steepleref07_Log.sig k), (48, steepleref05_Points.sig k), (36, steepleref06_Eval.sig k)]
def steepleref07_Values.cuts : List (Cut E (RT E.toTys [(true, .slice (.st 4))])) := [⟨true, 4, ⟨cat [.one (.val (.int .i64)), .one (.val (.slice (.st 4))), .one (.val (.slice (.st 4)))] (cat (ds 6) (cat [.one (.ref 1), .one (.ref 0), .one (.val (.int .i64))] (ds 24))), [.arr (.st 4), .arr (.st 4)], false⟩, fun k x => steepleref07_Values.l4 k x.1.1 x.1.2.1 x.1.2.2.1 x.1.2.2.2.1 x.2.1 x.2.2.1⟩]
theorem steepleref07_Values.ok (k : Nat) : Okf (XR E) Try.prog 18 (steepleref07_Values.sig k) := ⟨fn_ok (C := fun k => tab.ctx fun f => lk f (steepleref07_Values.calls k)) (fun k => tie _) k (fun j hj => calls_ok (kc (steepleref07_Log.ok j) (kc (steepleref05_Points.ok j) (kc (steepleref06_Eval.ok j) (kn))))) 400 Try.func18 (body := steepleref07_Values.body) (res := [.tmp 8]) rfl (by kernel_rfl) steepleref07_Values.cuts (kc ⟨by kernel_rfl, rfl, fun _ => rfl, fun _ _ => by kernel_rfl⟩ (kn)) (fun x => by kernel_rfl), _, Try.func18, by kernel_rfl, by kernel_rfl⟩
/-! ### steeple/steeplelaw01.Same: function 17 -/
def steeplelaw01_Same.l4 : Nat → List S27 → List S38 → Int → Option Bool
  | 0, _, _, _ => none
  | k + 1, x0, x1, x2 => if x2 < (x0.length : Int) then (if 0 ≤ x2 then (if x2 < (x0.length : Int) then (if 0 ≤ x2 then (if x2 < (x1.length : Int) then (if (rd27 x0 x2).f0 = (rd38 x1 x2).f0 ∧ (rd27 x0 x2).f1 = (rd38 x1 x2).f1 then steeplelaw01_Same.l4 k x0 x1 (wrap64 (x2 + 1)) else some false) else none) else none) else none) else none) else some true
def steeplelaw01_Same.f (k : Nat) (a0 : List S27) (a1 : List S38) : Option Bool := if (a0.length : Int) = (a1.length : Int) then steeplelaw01_Same.l4 k a0 a1 0 else some false
def steeplelaw01_Same.sig (k : Nat) : Sig E.toTys := ⟨[.slice (.st 0), .slice (.st 4)], [(false, .bool)], none, fun x => f k x.1 x.2.1⟩
noncomputable def steeplelaw01_Same.body : Code := Try.f17.body.getD .skip
def steeplelaw01_Same.calls (k : Nat) : List (Nat × Sig E.toTys) := []
def steeplelaw01_Same.cuts : List (Cut E (RT E.toTys [(false, .bool)])) := [⟨true, 4, ⟨cat [.one (.val (.slice (.st 0))), .one (.val (.slice (.st 4)))] (cat (ds 3) (cat [.one (.val (.int .i64))] (ds 20))), [], false⟩, fun k x => steeplelaw01_Same.l4 k x.1.1 x.1.2.1 x.1.2.2.1⟩]
theorem steeplelaw01_Same.ok (k : Nat) : Okf (XR E) Try.prog 17 (steeplelaw01_Same.sig k) := ⟨fn_ok (C := fun k => tab.ctx fun f => lk f (steeplelaw01_Same.calls k)) (fun k => tie _) k (fun j hj => calls_ok (kn)) 400 Try.func17 (body := steeplelaw01_Same.body) (res := [.tmp 4]) rfl (by kernel_rfl) steeplelaw01_Same.cuts (kc ⟨by kernel_rfl, rfl, fun _ => rfl, fun _ _ => by kernel_rfl⟩ (kn)) (fun x => by kernel_rfl), _, Try.func17, by kernel_rfl, by kernel_rfl⟩
/-! ### steeple/steeplelaw07.AnttForward: function 3 -/
def steeplelaw07_AnttForward.f (k : Nat) (a0 : S29) : Option Bool := (steeplelaw07_some.f k a0).bind fun r0 => (match r0 with | none => (steeplelaw07_awake.f k).bind fun r1 => some r1 | some _ => (antt_Forward.f k r0 a0.f1 a0.f2).bind fun r2 => (steeplelaw01_Ref.f k a0.f0.f1).bind fun r3 => (steeplelaw01_Ref.f k a0.f1).bind fun r4 => (steepleref07_Check.f k a0.f0.f0 r3 r4 (⟨a0.f2.f0, a0.f2.f1⟩ : S38)).bind fun r5 => if r2.2 = r5 then (if r2.2 = 0 then ((steeplelaw07_awake.f k).bind fun r6 => if r6 = true then ((steepleref07_Values.f k a0.f0.f0 r3 r4 (⟨a0.f2.f0, a0.f2.f1⟩ : S38)).bind fun r7 => (steeplelaw01_Same.f k r2.1 r7).bind fun r8 => if r8 = true then ((steeplelaw01_Same.f k a0.f1 r4).bind fun r9 => some r9) else some false) else some false) else (steeplelaw07_awake.f k).bind fun r10 => if r10 = true then some (decide ((r2.1.length : Int) = 0)) else some false) else some false)
def steeplelaw07_AnttForward.sig (k : Nat) : Sig E.toTys := ⟨[.st 2], [(false, .bool)], none, fun x => f k x.1⟩
noncomputable def steeplelaw07_AnttForward.body : Code := Try.f3.body.getD .skip
def steeplelaw07_AnttForward.calls (k : Nat) : List (Nat × Sig E.toTys) := [(12, steeplelaw07_some.sig k), (13, steeplelaw07_awake.sig k), (14, antt_Forward.sig k), (15, steeplelaw01_Ref.sig k), (16, steepleref07_Check.sig k), (18, steepleref07_Values.sig k), (17, steeplelaw01_Same.sig k)]
def steeplelaw07_AnttForward.cuts : List (Cut E (RT E.toTys [(false, .bool)])) := []
theorem steeplelaw07_AnttForward.ok (k : Nat) : Okf (XR E) Try.prog 3 (steeplelaw07_AnttForward.sig k) := ⟨fn_ok (C := fun k => tab.ctx fun f => lk f (steeplelaw07_AnttForward.calls k)) (fun k => tie _) k (fun j hj => calls_ok (kc (steeplelaw07_some.ok j) (kc (steeplelaw07_awake.ok j) (kc (antt_Forward.ok j) (kc (steeplelaw01_Ref.ok j) (kc (steepleref07_Check.ok j) (kc (steepleref07_Values.ok j) (kc (steeplelaw01_Same.ok j) (kn))))))))) 400 Try.func3 (body := steeplelaw07_AnttForward.body) (res := [.tmp 2]) rfl (by kernel_rfl) steeplelaw07_AnttForward.cuts (kn) (fun x => by kernel_rfl), _, Try.func3, by kernel_rfl, by kernel_rfl⟩
/-! ### steeple/steeplelaw07.AnttSums: function 4 -/
mutual
def steeplelaw07_AnttSums.j3 : Nat → Option Bool
  | 0 => none
  | k + 1 => (steeplelaw07_awake.f k).bind fun r6 => some r6
def steeplelaw07_AnttSums.l10 : Nat → List S27 → Option S80 → Int → Int → List S27 → List S27 → Int → Int → Int → Int → List S27 → List S27 → List S27 → Option Bool
  | 0, _, _, _, _, _, _, _, _, _, _, _, _, _ => none
  | k + 1, x0, x1, x2, x3, x4, x5, x6, x7, x8, x9, x10, x11, x12 => if x2 < (x0.length : Int) then (if 0 ≤ x2 then (if x2 < (x5.length : Int) then (if 0 ≤ x2 then (if x2 < (x0.length : Int) then ((tower_Mul.f k x3 (⟨x8, x9⟩ : S27) (rd27 x0 x2)).bind fun r7 => (tower_Add.f k (rd27 x5 x2) r7).bind fun r8 => if x12.length + [r8].length ≤ 140737488355328 / 16 then steeplelaw07_AnttSums.l10 k x0 x1 (wrap64 (x2 + 1)) x3 x4 x5 x6 x7 x8 x9 x10 x11 (x12 ++ [r8]) else none) else none) else none) else none) else none) else (antt_Forward.f k x1 x12 (⟨x6, x7⟩ : S27)).bind fun r9 => if r9.2 = 0 then (if (r9.1.length : Int) = (x10.length : Int) then (if (x11.length : Int) = (x10.length : Int) then steeplelaw07_AnttSums.l17 k 0 x3 x4 x5 x6 x7 x8 x9 x10 x11 r9.1 else some false) else some false) else some false
def steeplelaw07_AnttSums.l17 : Nat → Int → Int → List S27 → List S27 → Int → Int → Int → Int → List S27 → List S27 → List S27 → Option Bool
  | 0, _, _, _, _, _, _, _, _, _, _, _ => none
  | k + 1, x0, x1, x2, x3, x4, x5, x6, x7, x8, x9, x10 => if x0 < (x10.length : Int) then (if 0 ≤ x0 then (if x0 < (x10.length : Int) then (if 0 ≤ x0 then (if x0 < (x8.length : Int) then (if 0 ≤ x0 then (if x0 < (x9.length : Int) then ((tower_Mul.f k x1 (⟨x6, x7⟩ : S27) (rd27 x9 x0)).bind fun r10 => (tower_Add.f k (rd27 x8 x0) r10).bind fun r11 => if (rd27 x10 x0).f0 = r11.f0 ∧ (rd27 x10 x0).f1 = r11.f1 then steeplelaw07_AnttSums.l17 k (wrap64 (x0 + 1)) x1 x2 x3 x4 x5 x6 x7 x8 x9 x10 else some false) else none) else none) else none) else none) else none) else none) else (steeplelaw07_awake.f k).bind fun r12 => some r12
end
def steeplelaw07_AnttSums.f (k : Nat) (a0 : S29) (a1 : List S27) (a2 : S27) : Option Bool := (steeplelaw07_some.f k a0).bind fun r0 => (match r0 with | none => steeplelaw07_AnttSums.j3 k | some _ => if (a1.length : Int) = (a0.f1.length : Int) then ((steepleref01_Of.f k a0.f0.f0 (⟨a2.f0, a2.f1⟩ : S38)).bind fun r1 => if (!r1) = true then steeplelaw07_AnttSums.j3 k else (antt_Forward.f k r0 a0.f1 a0.f2).bind fun r2 => (antt_Forward.f k r0 a1 a0.f2).bind fun r3 => if r2.2 = 0 then (if r3.2 = 0 then steeplelaw07_AnttSums.l10 k a1 r0 0 a0.f0.f0 a0.f0.f1 a0.f1 a0.f2.f0 a0.f2.f1 a2.f0 a2.f1 r2.1 r3.1 [] else (steeplelaw07_awake.f k).bind fun r4 => some r4) else (steeplelaw07_awake.f k).bind fun r5 => some r5) else steeplelaw07_AnttSums.j3 k)
def steeplelaw07_AnttSums.sig (k : Nat) : Sig E.toTys := ⟨[.st 2, .slice (.st 0), .st 0], [(false, .bool)], none, fun x => f k x.1 x.2.1 x.2.2.1⟩
noncomputable def steeplelaw07_AnttSums.body : Code := Try.f4.body.getD .skip
def steeplelaw07_AnttSums.calls (k : Nat) : List (Nat × Sig E.toTys) := [(12, steeplelaw07_some.sig k), (19, steepleref01_Of.sig k), (14, antt_Forward.sig k), (13, steeplelaw07_awake.sig k), (21, tower_Mul.sig k), (20, tower_Add.sig k)]
def steeplelaw07_AnttSums.cuts : List (Cut E (RT E.toTys [(false, .bool)])) := [⟨false, 3, ⟨ds 136, [], false⟩, fun k x => steeplelaw07_AnttSums.j3 k⟩,
  ⟨true, 10, ⟨cat (ds 1) (cat [.one (.val (.slice (.st 0)))] (cat (ds 1) (cat [.one (.ptr 0 0)] (cat (ds 1) (cat [.one (.ptr 1 0)] (cat (ds 1) (cat [.one (.val (.ptr (.st 3))), .one (.ref 2)] (cat (ds 1) (cat [.one (.ref 3)] (cat (ds 1) (cat [.one (.ref 4), .one (.val (.int .i64))] (ds 122)))))))))))), [.var [.val (.int .i64), .val (.slice (.st 0)), .val (.slice (.st 0)), .val (.int .u64), .val (.int .u64)], .var [.val (.int .u64), .val (.int .u64)], .arr (.st 0), .arr (.st 0), .arr (.st 0)], false⟩, fun k x => steeplelaw07_AnttSums.l10 k x.1.1 x.1.2.1 x.1.2.2.1 x.2.1.1 x.2.1.2.1 x.2.1.2.2.1 x.2.1.2.2.2.1 x.2.1.2.2.2.2.1 x.2.2.1.1 x.2.2.1.2.1 x.2.2.2.1 x.2.2.2.2.1 x.2.2.2.2.2.1⟩,
  ⟨true, 17, ⟨cat (ds 3) (cat [.one (.ptr 0 0)] (cat (ds 1) (cat [.one (.ptr 1 0)] (cat (ds 2) (cat [.one (.ref 2)] (cat (ds 1) (cat [.one (.ref 3)] (cat (ds 3) (cat [.one (.ref 4)] (cat (ds 1) (cat [.one (.val (.int .i64))] (ds 119)))))))))))), [.var [.val (.int .i64), .val (.slice (.st 0)), .val (.slice (.st 0)), .val (.int .u64), .val (.int .u64)], .var [.val (.int .u64), .val (.int .u64)], .arr (.st 0), .arr (.st 0), .arr (.st 0)], false⟩, fun k x => steeplelaw07_AnttSums.l17 k x.1.1 x.2.1.1 x.2.1.2.1 x.2.1.2.2.1 x.2.1.2.2.2.1 x.2.1.2.2.2.2.1 x.2.2.1.1 x.2.2.1.2.1 x.2.2.2.1 x.2.2.2.2.1 x.2.2.2.2.2.1⟩]
theorem steeplelaw07_AnttSums.ok (k : Nat) : Okf (XR E) Try.prog 4 (steeplelaw07_AnttSums.sig k) := ⟨fn_ok (C := fun k => tab.ctx fun f => lk f (steeplelaw07_AnttSums.calls k)) (fun k => tie _) k (fun j hj => calls_ok (kc (steeplelaw07_some.ok j) (kc (steepleref01_Of.ok j) (kc (antt_Forward.ok j) (kc (steeplelaw07_awake.ok j) (kc (tower_Mul.ok j) (kc (tower_Add.ok j) (kn)))))))) 400 Try.func4 (body := steeplelaw07_AnttSums.body) (res := [.tmp 6]) rfl (by kernel_rfl) steeplelaw07_AnttSums.cuts (kc ⟨by kernel_rfl, rfl, fun _ => rfl, fun _ _ => by kernel_rfl⟩ (kc ⟨by kernel_rfl, rfl, fun _ => rfl, fun _ _ => by kernel_rfl⟩ (kc ⟨by kernel_rfl, rfl, fun _ => rfl, fun _ _ => by kernel_rfl⟩ (kn)))) (fun x => by kernel_rfl), _, Try.func4, by kernel_rfl, by kernel_rfl⟩
end Go.Proofs.Ytjajiedfhpacpaa.B
namespace Go.Proofs.Ytjajiedfhpacpaa.B
open Go.Proofs.Ytjajiedfhpacpaa.V.B Go.RowKit
set_option linter.unusedVariables false
/-! ### steeple/steeplelaw07.AnttShifts: function 5 -/
mutual
def steeplelaw07_AnttShifts.j6 : Nat → Int → Option Bool
  | 0, _ => none
  | k + 1, x0 => (steeplelaw07_awake.f k).bind fun r6 => if r6 = true then some (!decide (x0 = 0)) else some false
def steeplelaw07_AnttShifts.l12 : Nat → Int → Int → List S27 → List S27 → Option Bool
  | 0, _, _, _, _ => none
  | k + 1, x0, x1, x2, x3 => if x1 < (x2.length : Int) then (if 0 ≤ x1 then (if x1 < (x3.length : Int) then (if 0 ≤ bits .xor .i64 x1 x0 then (if bits .xor .i64 x1 x0 < (x2.length : Int) then (if (rd27 x3 x1).f0 = (rd27 x2 (bits .xor .i64 x1 x0)).f0 ∧ (rd27 x3 x1).f1 = (rd27 x2 (bits .xor .i64 x1 x0)).f1 then steeplelaw07_AnttShifts.l12 k x0 (wrap64 (x1 + 1)) x2 x3 else some false) else none) else none) else none) else none) else (steeplelaw07_awake.f k).bind fun r7 => some r7
end
def steeplelaw07_AnttShifts.f (k : Nat) (a0 : S29) (a1 : Int) : Option Bool := (steeplelaw07_some.f k a0).bind fun r0 => (match r0 with | none => (steeplelaw07_awake.f k).bind fun r1 => some r1 | some _ => (antt_Forward.f k r0 a0.f1 a0.f2).bind fun r2 => if r2.2 = 0 then (if (r2.1.length : Int) = 0 then steeplelaw07_AnttShifts.j6 k r2.2 else if (r2.1.length : Int) = 0 then none else if (r2.1.length : Int) = 0 then none else (linpoly_Space_Point.f k r0 (Int.tmod (wrap64 ((Int.tmod a1 (r2.1.length : Int)) + (r2.1.length : Int))) (r2.1.length : Int))).bind fun r3 => (tower_Add.f k a0.f2 r3).bind fun r4 => (antt_Forward.f k r0 a0.f1 r4).bind fun r5 => if r5.2 = 0 then (if (r5.1.length : Int) = (r2.1.length : Int) then steeplelaw07_AnttShifts.l12 k (Int.tmod (wrap64 ((Int.tmod a1 (r2.1.length : Int)) + (r2.1.length : Int))) (r2.1.length : Int)) 0 r2.1 r5.1 else some false) else some false) else steeplelaw07_AnttShifts.j6 k r2.2)
def steeplelaw07_AnttShifts.sig (k : Nat) : Sig E.toTys := ⟨[.st 2, .int .i64], [(false, .bool)], none, fun x => f k x.1 x.2.1⟩
noncomputable def steeplelaw07_AnttShifts.body : Code := Try.f5.body.getD .skip
def steeplelaw07_AnttShifts.calls (k : Nat) : List (Nat × Sig E.toTys) := [(12, steeplelaw07_some.sig k), (13, steeplelaw07_awake.sig k), (14, antt_Forward.sig k), (22, linpoly_Space_Point.sig k), (20, tower_Add.sig k)]
def steeplelaw07_AnttShifts.cuts : List (Cut E (RT E.toTys [(false, .bool)])) := [⟨false, 6, ⟨cat (ds 7) (cat [.one (.val (.int .i64))] (ds 79)), [], false⟩, fun k x => steeplelaw07_AnttShifts.j6 k x.1.1⟩,
  ⟨true, 12, ⟨cat (ds 1) (cat [.one (.val (.int .i64))] (cat (ds 4) (cat [.one (.ref 0)] (cat (ds 1) (cat [.one (.ref 1)] (cat (ds 1) (cat [.one (.val (.int .i64))] (ds 76)))))))), [.arr (.st 0), .arr (.st 0)], false⟩, fun k x => steeplelaw07_AnttShifts.l12 k x.1.1 x.1.2.1 x.2.1 x.2.2.1⟩]
theorem steeplelaw07_AnttShifts.ok (k : Nat) : Okf (XR E) Try.prog 5 (steeplelaw07_AnttShifts.sig k) := ⟨fn_ok (C := fun k => tab.ctx fun f => lk f (steeplelaw07_AnttShifts.calls k)) (fun k => tie _) k (fun j hj => calls_ok (kc (steeplelaw07_some.ok j) (kc (steeplelaw07_awake.ok j) (kc (antt_Forward.ok j) (kc (linpoly_Space_Point.ok j) (kc (tower_Add.ok j) (kn))))))) 400 Try.func5 (body := steeplelaw07_AnttShifts.body) (res := [.tmp 4]) rfl (by kernel_rfl) steeplelaw07_AnttShifts.cuts (kc ⟨by kernel_rfl, rfl, fun _ => rfl, fun _ _ => by kernel_rfl⟩ (kc ⟨by kernel_rfl, rfl, fun _ => rfl, fun _ _ => by kernel_rfl⟩ (kn))) (fun x => by kernel_rfl), _, Try.func5, by kernel_rfl, by kernel_rfl⟩
/-! ### steeple/antt.Back: function 23 -/
mutual
def antt_Back.l6 : Nat → Option S80 → Int → Int → Int → Int → List S27 → Option ((List S27) × Int)
  | 0, _, _, _, _, _, _ => none
  | k + 1, x0, x1, x2, x3, x4, x5 => if x2 < x1 then (if 0 ≤ x2 then (if wrap64 (2 * (shl .i64 1 x2)) = 0 then none else antt_Back.l10 k x0 x2 (shl .i64 1 x2) x1 x2 (wrap64 (Int.tdiv (x5.length : Int) (wrap64 (2 * (shl .i64 1 x2))))) 0 x3 x4 x5) else none) else some (x5, 0)
def antt_Back.l10 : Nat → Option S80 → Int → Int → Int → Int → Int → Int → Int → Int → List S27 → Option ((List S27) × Int)
  | 0, _, _, _, _, _, _, _, _, _, _ => none
  | k + 1, x0, x1, x2, x3, x4, x5, x6, x7, x8, x9 => if x6 < x5 then ((antt_twist.f k x0 x1 x6 (⟨x7, x8⟩ : S27)).bind fun r2 => antt_Back.l14 k x0 x1 x2 x6 x3 x4 x5 x6 x2 0 x7 x8 x9 r2.f0 r2.f1) else antt_Back.l6 k x0 x3 (wrap64 (x4 + 1)) x7 x8 x9
def antt_Back.l14 : Nat → Option S80 → Int → Int → Int → Int → Int → Int → Int → Int → Int → Int → Int → List S27 → Int → Int → Option ((List S27) × Int)
  | 0, _, _, _, _, _, _, _, _, _, _, _, _, _, _, _ => none
  | k + 1, x0, x1, x2, x3, x4, x5, x6, x7, x8, x9, x10, x11, x12, x13, x14 => if x9 < x8 then (if 0 ≤ wrap64 ((wrap64 ((wrap64 (2 * x2)) * x3)) + x9) then (if wrap64 ((wrap64 ((wrap64 (2 * x2)) * x3)) + x9) < (x12.length : Int) then (if 0 ≤ wrap64 ((wrap64 ((wrap64 ((wrap64 (2 * x2)) * x3)) + x2)) + x9) then (if wrap64 ((wrap64 ((wrap64 ((wrap64 (2 * x2)) * x3)) + x2)) + x9) < (x12.length : Int) then ((tower_Add.f k (rd27 x12 (wrap64 ((wrap64 ((wrap64 (2 * x2)) * x3)) + x9))) (rd27 x12 (wrap64 ((wrap64 ((wrap64 ((wrap64 (2 * x2)) * x3)) + x2)) + x9)))).bind fun r3 => if 0 ≤ wrap64 ((wrap64 ((wrap64 ((wrap64 (2 * x2)) * x3)) + x2)) + x9) then (if wrap64 ((wrap64 ((wrap64 ((wrap64 (2 * x2)) * x3)) + x2)) + x9) < (x12.length : Int) then (if 0 ≤ wrap64 ((wrap64 ((wrap64 (2 * x2)) * x3)) + x9) then (if wrap64 ((wrap64 ((wrap64 (2 * x2)) * x3)) + x9) < ((x12.set (Int.toNat (wrap64 ((wrap64 ((wrap64 ((wrap64 (2 * x2)) * x3)) + x2)) + x9))) r3).length : Int) then ((linpoly_Space_Level.f k x0).bind fun r4 => if 0 ≤ wrap64 ((wrap64 ((wrap64 ((wrap64 (2 * x2)) * x3)) + x2)) + x9) then (if wrap64 ((wrap64 ((wrap64 ((wrap64 (2 * x2)) * x3)) + x2)) + x9) < ((x12.set (Int.toNat (wrap64 ((wrap64 ((wrap64 ((wrap64 (2 * x2)) * x3)) + x2)) + x9))) r3).length : Int) then ((tower_Mul.f k r4 (⟨x13, x14⟩ : S27) (rd27 (x12.set (Int.toNat (wrap64 ((wrap64 ((wrap64 ((wrap64 (2 * x2)) * x3)) + x2)) + x9))) r3) (wrap64 ((wrap64 ((wrap64 ((wrap64 (2 * x2)) * x3)) + x2)) + x9)))).bind fun r5 => (tower_Add.f k (rd27 (x12.set (Int.toNat (wrap64 ((wrap64 ((wrap64 ((wrap64 (2 * x2)) * x3)) + x2)) + x9))) r3) (wrap64 ((wrap64 ((wrap64 (2 * x2)) * x3)) + x9))) r5).bind fun r6 => if 0 ≤ wrap64 ((wrap64 ((wrap64 (2 * x2)) * x3)) + x9) then (if wrap64 ((wrap64 ((wrap64 (2 * x2)) * x3)) + x9) < ((x12.set (Int.toNat (wrap64 ((wrap64 ((wrap64 ((wrap64 (2 * x2)) * x3)) + x2)) + x9))) r3).length : Int) then antt_Back.l14 k x0 x1 x2 x3 x4 x5 x6 x7 x8 (wrap64 (x9 + 1)) x10 x11 ((x12.set (Int.toNat (wrap64 ((wrap64 ((wrap64 ((wrap64 (2 * x2)) * x3)) + x2)) + x9))) r3).set (Int.toNat (wrap64 ((wrap64 ((wrap64 (2 * x2)) * x3)) + x9))) r6) x13 x14 else none) else none) else none) else none) else none) else none) else none) else none) else none) else none) else none) else none) else antt_Back.l10 k x0 x1 x2 x4 x5 x6 (wrap64 (x7 + 1)) x10 x11 x12
end
def antt_Back.f (k : Nat) (a0 : Option S80) (a1 : List S27) (a2 : S27) : Option ((List S27) × Int) := (antt_ask.f k a0 a1 a2).bind fun r0 => if r0.2 = 0 then ((slices_Clone44.f k a1).bind fun r1 => antt_Back.l6 k a0 r0.1 0 a2.f0 a2.f1 r1) else some ([], r0.2)
def antt_Back.sig (k : Nat) : Sig E.toTys := ⟨[.ptr (.st 3), .slice (.st 0), .st 0], [(true, .slice (.st 0)), (false, .int .i64)], none, fun x => f k x.1 x.2.1 x.2.2.1⟩
noncomputable def antt_Back.body : Code := Try.f23.body.getD .skip
def antt_Back.calls (k : Nat) : List (Nat × Sig E.toTys) := [(43, antt_ask.sig k), (44, slices_Clone44.sig k), (45, antt_twist.sig k), (20, tower_Add.sig k), (46, linpoly_Space_Level.sig k), (21, tower_Mul.sig k)]
def antt_Back.cuts : List (Cut E (RT E.toTys [(true, .slice (.st 0)), (false, .int .i64)])) := [⟨true, 6, ⟨cat [.one (.val (.ptr (.st 3)))] (cat (ds 4) (cat [.one (.ptr 0 0)] (cat (ds 4) (cat [.one (.ref 1)] (cat (ds 19) (cat [.one (.val (.int .i64)), .one (.val (.int .i64))] (ds 67))))))), [.var [.val (.int .u64), .val (.int .u64)], .arr (.st 0)], false⟩, fun k x => antt_Back.l6 k x.1.1 x.1.2.1 x.1.2.2.1 x.2.1.1 x.2.1.2.1 x.2.2.1⟩,
  ⟨true, 10, ⟨cat [.one (.val (.ptr (.st 3)))] (cat (ds 4) (cat [.one (.ptr 0 0)] (cat (ds 4) (cat [.one (.ref 1), .one (.val (.int .i64)), .one (.val (.int .i64))] (cat (ds 17) (cat [.one (.val (.int .i64)), .one (.val (.int .i64))] (cat (ds 8) (cat [.one (.val (.int .i64)), .one (.val (.int .i64))] (ds 57))))))))), [.var [.val (.int .u64), .val (.int .u64)], .arr (.st 0)], false⟩, fun k x => antt_Back.l10 k x.1.1 x.1.2.1 x.1.2.2.1 x.1.2.2.2.1 x.1.2.2.2.2.1 x.1.2.2.2.2.2.1 x.1.2.2.2.2.2.2.1 x.2.1.1 x.2.1.2.1 x.2.2.1⟩,
  ⟨true, 14, ⟨cat [.one (.val (.ptr (.st 3)))] (cat (ds 4) (cat [.one (.ptr 0 0)] (cat (ds 4) (cat [.one (.ref 1), .one (.val (.int .i64)), .one (.val (.int .i64)), .one (.val (.int .i64)), .one (.ptr 2 0)] (cat (ds 15) (cat [.one (.val (.int .i64)), .one (.val (.int .i64))] (cat (ds 8) (cat [.one (.val (.int .i64)), .one (.val (.int .i64))] (cat (ds 7) (cat [.one (.val (.int .i64)), .one (.val (.int .i64))] (ds 48))))))))))), [.var [.val (.int .u64), .val (.int .u64)], .arr (.st 0), .var [.val (.int .u64), .val (.int .u64)]], false⟩, fun k x => antt_Back.l14 k x.1.1 x.1.2.1 x.1.2.2.1 x.1.2.2.2.1 x.1.2.2.2.2.1 x.1.2.2.2.2.2.1 x.1.2.2.2.2.2.2.1 x.1.2.2.2.2.2.2.2.1 x.1.2.2.2.2.2.2.2.2.1 x.1.2.2.2.2.2.2.2.2.2.1 x.2.1.1 x.2.1.2.1 x.2.2.1 x.2.2.2.1.1 x.2.2.2.1.2.1⟩]
theorem antt_Back.ok (k : Nat) : Okf (XR E) Try.prog 23 (antt_Back.sig k) := ⟨fn_ok (C := fun k => tab.ctx fun f => lk f (antt_Back.calls k)) (fun k => tie _) k (fun j hj => calls_ok (kc (antt_ask.ok j) (kc (slices_Clone44.ok j) (kc (antt_twist.ok j) (kc (tower_Add.ok j) (kc (linpoly_Space_Level.ok j) (kc (tower_Mul.ok j) (kn)))))))) 400 Try.func23 (body := antt_Back.body) (res := [.tmp 6, .tmp 7]) rfl (by kernel_rfl) antt_Back.cuts (kc ⟨by kernel_rfl, rfl, fun _ => rfl, fun _ _ => by kernel_rfl⟩ (kc ⟨by kernel_rfl, rfl, fun _ => rfl, fun _ _ => by kernel_rfl⟩ (kc ⟨by kernel_rfl, rfl, fun _ => rfl, fun _ _ => by kernel_rfl⟩ (kn)))) (fun x => by kernel_rfl), _, Try.func23, by kernel_rfl, by kernel_rfl⟩
/-! ### steeple/steeplelaw07.AnttBack: function 6 -/
def steeplelaw07_AnttBack.f (k : Nat) (a0 : S29) : Option Bool := (steeplelaw07_some.f k a0).bind fun r0 => (match r0 with | none => (steeplelaw07_awake.f k).bind fun r1 => some r1 | some _ => (steeplelaw01_Ref.f k a0.f1).bind fun r2 => (antt_Back.f k r0 a0.f1 a0.f2).bind fun r3 => (steeplelaw01_Ref.f k a0.f0.f1).bind fun r4 => (steepleref07_Check.f k a0.f0.f0 r4 r2 (⟨a0.f2.f0, a0.f2.f1⟩ : S38)).bind fun r5 => if r3.2 = r5 then (if r3.2 = 0 then ((antt_Forward.f k r0 r3.1 a0.f2).bind fun r6 => (antt_Forward.f k r0 a0.f1 a0.f2).bind fun r7 => (antt_Back.f k r0 r7.1 a0.f2).bind fun r8 => (steeplelaw07_awake.f k).bind fun r9 => if r9 = true then (if r6.2 = 0 then (if r7.2 = 0 then (if r8.2 = 0 then ((steeplelaw01_Same.f k r6.1 r2).bind fun r10 => if r10 = true then ((steeplelaw01_Same.f k r8.1 r2).bind fun r11 => some r11) else some false) else some false) else some false) else some false) else some false) else (steeplelaw07_awake.f k).bind fun r12 => if r12 = true then some (decide ((r3.1.length : Int) = 0)) else some false) else some false)
def steeplelaw07_AnttBack.sig (k : Nat) : Sig E.toTys := ⟨[.st 2], [(false, .bool)], none, fun x => f k x.1⟩
noncomputable def steeplelaw07_AnttBack.body : Code := Try.f6.body.getD .skip
def steeplelaw07_AnttBack.calls (k : Nat) : List (Nat × Sig E.toTys) := [(12, steeplelaw07_some.sig k), (13, steeplelaw07_awake.sig k), (15, steeplelaw01_Ref.sig k), (23, antt_Back.sig k), (16, steepleref07_Check.sig k), (14, antt_Forward.sig k), (17, steeplelaw01_Same.sig k)]
def steeplelaw07_AnttBack.cuts : List (Cut E (RT E.toTys [(false, .bool)])) := []
theorem steeplelaw07_AnttBack.ok (k : Nat) : Okf (XR E) Try.prog 6 (steeplelaw07_AnttBack.sig k) := ⟨fn_ok (C := fun k => tab.ctx fun f => lk f (steeplelaw07_AnttBack.calls k)) (fun k => tie _) k (fun j hj => calls_ok (kc (steeplelaw07_some.ok j) (kc (steeplelaw07_awake.ok j) (kc (steeplelaw01_Ref.ok j) (kc (antt_Back.ok j) (kc (steepleref07_Check.ok j) (kc (antt_Forward.ok j) (kc (steeplelaw01_Same.ok j) (kn))))))))) 400 Try.func6 (body := steeplelaw07_AnttBack.body) (res := [.tmp 2]) rfl (by kernel_rfl) steeplelaw07_AnttBack.cuts (kn) (fun x => by kernel_rfl), _, Try.func6, by kernel_rfl, by kernel_rfl⟩
/-! ### steeple/antt.Steps: function 24 -/
def antt_Steps.f (k : Nat) (a0 : Int) : Option Int := if a0 < 1 then some 0 else if a0 > 20 then some 0 else if 0 ≤ wrap64 (a0 - 1) then some (shl .i64 a0 (wrap64 (a0 - 1))) else none
def antt_Steps.sig (k : Nat) : Sig E.toTys := ⟨[.int .i64], [(false, .int .i64)], none, fun x => f k x.1⟩
noncomputable def antt_Steps.body : Code := Try.f24.body.getD .skip
def antt_Steps.calls (k : Nat) : List (Nat × Sig E.toTys) := []
def antt_Steps.cuts : List (Cut E (RT E.toTys [(false, .int .i64)])) := []
theorem antt_Steps.ok (k : Nat) : Okf (XR E) Try.prog 24 (antt_Steps.sig k) := ⟨fn_ok (C := fun k => tab.ctx fun f => lk f (antt_Steps.calls k)) (fun k => tie _) k (fun j hj => calls_ok (kn)) 400 Try.func24 (body := antt_Steps.body) (res := [.tmp 2]) rfl (by kernel_rfl) antt_Steps.cuts (kn) (fun x => by kernel_rfl), _, Try.func24, by kernel_rfl, by kernel_rfl⟩
/-! ### steeple/steeplelaw07.AnttNil: function 7 -/
mutual
def steeplelaw07_AnttNil.l7 : Nat → Int → Int → Int → Int → Int → List S27 → List S27 → Option Bool
  | 0, _, _, _, _, _, _, _ => none
  | k + 1, x0, x1, x2, x3, x4, x5, x6 => if x4 < x0 then steeplelaw07_AnttNil.l7 k x0 x1 x2 (wrap64 (2 * x3)) (wrap64 (x4 + 1)) x5 x6 else steeplelaw07_AnttNil.j10 k x0 x1 x2 x3 x5 x6
def steeplelaw07_AnttNil.j10 : Nat → Int → Int → Int → Int → List S27 → List S27 → Option Bool
  | 0, _, _, _, _, _, _ => none
  | k + 1, x0, x1, x2, x3, x4, x5 => (steeplelaw07_awake.f k).bind fun r2 => if r2 = true then (if x1 = 1 then (if x2 = 1 then (if wrap64 ((x4.length : Int) + (x5.length : Int)) = 0 then ((antt_Steps.f k x0).bind fun r3 => some (decide (r3 = x3))) else some false) else some false) else some false) else some false
end
def steeplelaw07_AnttNil.f (k : Nat) (a0 : List S27) (a1 : S27) (a2 : Int) : Option Bool := (antt_Forward.f k none a0 a1).bind fun r0 => (antt_Back.f k none a0 a1).bind fun r1 => if a2 ≥ 1 then (if a2 ≤ 20 then steeplelaw07_AnttNil.l7 k a2 r0.2 r1.2 a2 1 r0.1 r1.1 else steeplelaw07_AnttNil.j10 k a2 r0.2 r1.2 0 r0.1 r1.1) else steeplelaw07_AnttNil.j10 k a2 r0.2 r1.2 0 r0.1 r1.1
def steeplelaw07_AnttNil.sig (k : Nat) : Sig E.toTys := ⟨[.slice (.st 0), .st 0, .int .i64], [(false, .bool)], none, fun x => f k x.1 x.2.1 x.2.2.1⟩
noncomputable def steeplelaw07_AnttNil.body : Code := Try.f7.body.getD .skip
def steeplelaw07_AnttNil.calls (k : Nat) : List (Nat × Sig E.toTys) := [(14, antt_Forward.sig k), (23, antt_Back.sig k), (13, steeplelaw07_awake.sig k), (24, antt_Steps.sig k)]
def steeplelaw07_AnttNil.cuts : List (Cut E (RT E.toTys [(false, .bool)])) := [⟨true, 7, ⟨cat (ds 2) (cat [.one (.val (.int .i64))] (cat (ds 4) (cat [.one (.ref 0), .one (.val (.int .i64)), .one (.ref 1), .one (.val (.int .i64)), .one (.val (.int .i64)), .one (.val (.int .i64))] (ds 49)))), [.arr (.st 0), .arr (.st 0)], false⟩, fun k x => steeplelaw07_AnttNil.l7 k x.1.1 x.1.2.1 x.1.2.2.1 x.1.2.2.2.1 x.1.2.2.2.2.1 x.2.1 x.2.2.1⟩,
  ⟨false, 10, ⟨cat (ds 2) (cat [.one (.val (.int .i64))] (cat (ds 4) (cat [.one (.ref 0), .one (.val (.int .i64)), .one (.ref 1), .one (.val (.int .i64)), .one (.val (.int .i64))] (ds 50)))), [.arr (.st 0), .arr (.st 0)], false⟩, fun k x => steeplelaw07_AnttNil.j10 k x.1.1 x.1.2.1 x.1.2.2.1 x.1.2.2.2.1 x.2.1 x.2.2.1⟩]
theorem steeplelaw07_AnttNil.ok (k : Nat) : Okf (XR E) Try.prog 7 (steeplelaw07_AnttNil.sig k) := ⟨fn_ok (C := fun k => tab.ctx fun f => lk f (steeplelaw07_AnttNil.calls k)) (fun k => tie _) k (fun j hj => calls_ok (kc (antt_Forward.ok j) (kc (antt_Back.ok j) (kc (steeplelaw07_awake.ok j) (kc (antt_Steps.ok j) (kn)))))) 400 Try.func7 (body := steeplelaw07_AnttNil.body) (res := [.tmp 6]) rfl (by kernel_rfl) steeplelaw07_AnttNil.cuts (kc ⟨by kernel_rfl, rfl, fun _ => rfl, fun _ _ => by kernel_rfl⟩ (kc ⟨by kernel_rfl, rfl, fun _ => rfl, fun _ _ => by kernel_rfl⟩ (kn))) (fun x => by kernel_rfl), _, Try.func7, by kernel_rfl, by kernel_rfl⟩
/-! ### steeple/steeplelaw06.elems: function 54 -/
def steeplelaw06_elems.l3 : Nat → List Int → Int → List S27 → Option (List S27)
  | 0, _, _, _ => none
  | k + 1, x0, x1, x2 => if x1 < (x0.length : Int) then (if 0 ≤ x1 then (if x1 < (x0.length : Int) then (if x2.length + [(⟨0, rdI x0 x1⟩ : S27)].length ≤ 140737488355328 / 16 then steeplelaw06_elems.l3 k x0 (wrap64 (x1 + 1)) (x2 ++ [(⟨0, rdI x0 x1⟩ : S27)]) else none) else none) else none) else some x2
def steeplelaw06_elems.f (k : Nat) (a0 : List Int) : Option (List S27) := steeplelaw06_elems.l3 k a0 0 []
def steeplelaw06_elems.sig (k : Nat) : Sig E.toTys := ⟨[.slice (.int .u64)], [(true, .slice (.st 0))], none, fun x => f k x.1⟩
noncomputable def steeplelaw06_elems.body : Code := Try.f54.body.getD .skip
def steeplelaw06_elems.calls (k : Nat) : List (Nat × Sig E.toTys) := []
def steeplelaw06_elems.cuts : List (Cut E (RT E.toTys [(true, .slice (.st 0))])) := [⟨true, 3, ⟨cat [.one (.val (.slice (.int .u64)))] (cat (ds 2) (cat [.one (.ref 0), .one (.val (.int .i64))] (ds 15))), [.arr (.st 0)], false⟩, fun k x => steeplelaw06_elems.l3 k x.1.1 x.1.2.1 x.2.1⟩]
theorem steeplelaw06_elems.ok (k : Nat) : Okf (XR E) Try.prog 54 (steeplelaw06_elems.sig k) := ⟨fn_ok (C := fun k => tab.ctx fun f => lk f (steeplelaw06_elems.calls k)) (fun k => tie _) k (fun j hj => calls_ok (kn)) 400 Try.func54 (body := steeplelaw06_elems.body) (res := [.tmp 2]) rfl (by kernel_rfl) steeplelaw06_elems.cuts (kc ⟨by kernel_rfl, rfl, fun _ => rfl, fun _ _ => by kernel_rfl⟩ (kn)) (fun x => by kernel_rfl), _, Try.func54, by kernel_rfl, by kernel_rfl⟩
/-! ### steeple/novel.of$1: function 73 -/
def novel_of_1.f (k : Nat) (a0 : S27) (a1 : Option Int) : Option Bool := (match a1 with | none => none | some r0 => (octet_Of.f k r0 a0).bind fun r1 => some (!r1))
def novel_of_1.sig (k : Nat) : Sig E.toTys := ⟨[.st 0, .ptr (.int .i64)], [(false, .bool)], none, fun x => f k x.1 x.2.1⟩
noncomputable def novel_of_1.body : Code := Try.f73.body.getD .skip
def novel_of_1.calls (k : Nat) : List (Nat × Sig E.toTys) := [(50, octet_Of.sig k)]
def novel_of_1.cuts : List (Cut E (RT E.toTys [(false, .bool)])) := []
theorem novel_of_1.ok (k : Nat) : Okf (XR E) Try.prog 73 (novel_of_1.sig k) := ⟨fn_ok (C := fun k => tab.ctx fun f => lk f (novel_of_1.calls k)) (fun k => tie _) k (fun j hj => calls_ok (kc (octet_Of.ok j) (kn))) 400 Try.func73 (body := novel_of_1.body) (res := [.tmp 3]) rfl (by kernel_rfl) novel_of_1.cuts (kn) (fun x => by kernel_rfl), _, Try.func73, by kernel_rfl, by kernel_rfl⟩
/-! ### slices.IndexFunc: function 85 -/
def slices_IndexFunc85_c73.l2 : Nat → List S27 → Int → Int → Int → Option Int
  | 0, _, _, _, _ => none
  | k + 1, x0, x1, x2, x3 => if x3 < x2 then (if 0 ≤ x3 then (if x3 < (x0.length : Int) then ((novel_of_1.f k (rd27 x0 x3) (some x1)).bind fun r0 => if r0 = true then some x3 else slices_IndexFunc85_c73.l2 k x0 x1 x2 (wrap64 (x3 + 1))) else none) else none) else some (-1)
def slices_IndexFunc85_c73.f (k : Nat) (a0 : List S27) (a1 : Int) : Option Int := slices_IndexFunc85_c73.l2 k a0 a1 (a0.length : Int) 0
def slices_IndexFunc85_c73.sig (k : Nat) : Sig E.toTys := ⟨[.slice (.st 0), .ext 73 (.int .i64)], [(false, .int .i64)], none, fun x => f k x.1 x.2.1⟩
noncomputable def slices_IndexFunc85_c73.body : Code := Try.f85.body.getD .skip
def slices_IndexFunc85_c73.calls (k : Nat) : List (Nat × Sig E.toTys) := [(73, novel_of_1.sig k)]
def slices_IndexFunc85_c73.cuts : List (Cut E (RT E.toTys [(false, .int .i64)])) := [⟨true, 2, ⟨cat [.one (.val (.slice (.st 0))), .one (.val (.ext 73 (.int .i64)))] (cat (ds 5) (cat [.one (.val (.int .i64)), .one (.val (.int .i64))] (ds 10))), [], false⟩, fun k x => slices_IndexFunc85_c73.l2 k x.1.1 x.1.2.1 x.1.2.2.1 x.1.2.2.2.1⟩]
theorem slices_IndexFunc85_c73.ok (k : Nat) : Okf (XR E) Try.prog 85 (slices_IndexFunc85_c73.sig k) := ⟨fn_ok (C := fun k => tab.ctx fun f => lk f (slices_IndexFunc85_c73.calls k)) (fun k => tie _) k (fun j hj => calls_ok (kc (novel_of_1.ok j) (kn))) 400 Try.func85 (body := slices_IndexFunc85_c73.body) (res := [.tmp 4]) rfl (by kernel_rfl) slices_IndexFunc85_c73.cuts (kc ⟨by kernel_rfl, rfl, fun _ => rfl, fun _ _ => by kernel_rfl⟩ (kn)) (fun x => by kernel_rfl), _, Try.func85, by kernel_rfl, by kernel_rfl⟩
/-! ### slices.ContainsFunc: function 69 -/
def slices_ContainsFunc69_c73.f (k : Nat) (a0 : List S27) (a1 : Int) : Option Bool := (slices_IndexFunc85_c73.f k a0 a1).bind fun r0 => some (decide (r0 ≥ 0))
def slices_ContainsFunc69_c73.sig (k : Nat) : Sig E.toTys := ⟨[.slice (.st 0), .ext 73 (.int .i64)], [(false, .bool)], none, fun x => f k x.1 x.2.1⟩
noncomputable def slices_ContainsFunc69_c73.body : Code := Try.f69.body.getD .skip
def slices_ContainsFunc69_c73.calls (k : Nat) : List (Nat × Sig E.toTys) := [(85, slices_IndexFunc85_c73.sig k)]
def slices_ContainsFunc69_c73.cuts : List (Cut E (RT E.toTys [(false, .bool)])) := []
theorem slices_ContainsFunc69_c73.ok (k : Nat) : Okf (XR E) Try.prog 69 (slices_ContainsFunc69_c73.sig k) := ⟨fn_ok (C := fun k => tab.ctx fun f => lk f (slices_ContainsFunc69_c73.calls k)) (fun k => tie _) k (fun j hj => calls_ok (kc (slices_IndexFunc85_c73.ok j) (kn))) 400 Try.func69 (body := slices_ContainsFunc69_c73.body) (res := [.tmp 4]) rfl (by kernel_rfl) slices_ContainsFunc69_c73.cuts (kn) (fun x => by kernel_rfl), _, Try.func69, by kernel_rfl, by kernel_rfl⟩
/-! ### steeple/novel.of: function 56 -/
def novel_of.f (k : Nat) (a0 : Int) (a1 : List S27) : Option Bool := (slices_ContainsFunc69_c73.f k a1 a0).bind fun r0 => some (!r0)
def novel_of.sig (k : Nat) : Sig E.toTys := ⟨[.int .i64, .slice (.st 0)], [(false, .bool)], none, fun x => f k x.1 x.2.1⟩
noncomputable def novel_of.body : Code := Try.f56.body.getD .skip
def novel_of.calls (k : Nat) : List (Nat × Sig E.toTys) := [(69, slices_ContainsFunc69_c73.sig k)]
def novel_of.cuts : List (Cut E (RT E.toTys [(false, .bool)])) := []
theorem novel_of.ok (k : Nat) : Okf (XR E) Try.prog 56 (novel_of.sig k) := ⟨fn_ok (C := fun k => tab.ctx fun f => lk f (novel_of.calls k)) (fun k => tie _) k (fun j hj => calls_ok (kc (slices_ContainsFunc69_c73.ok j) (kn))) 400 Try.func56 (body := novel_of.body) (res := [.tmp 4]) rfl (by kernel_rfl) novel_of.cuts (kn) (fun x => by kernel_rfl), _, Try.func56, by kernel_rfl, by kernel_rfl⟩
/-! ### steeple/novel.ask: function 62 -/
def novel_ask.f (k : Nat) (a0 : Option S80) (a1 : List S27) : Option Int := (match a0 with | none => some 1 | some _ => (linpoly_Space_Dim.f k a0).bind fun r0 => if 0 ≤ r0 then (if (a1.length : Int) > shl .i64 1 r0 then some 6 else (linpoly_Space_Level.f k a0).bind fun r1 => (novel_of.f k r1 a1).bind fun r2 => if (!r2) = true then some 5 else some 0) else none)
def novel_ask.sig (k : Nat) : Sig E.toTys := ⟨[.ptr (.st 3), .slice (.st 0)], [(false, .int .i64)], none, fun x => f k x.1 x.2.1⟩
noncomputable def novel_ask.body : Code := Try.f62.body.getD .skip
def novel_ask.calls (k : Nat) : List (Nat × Sig E.toTys) := [(38, linpoly_Space_Dim.sig k), (46, linpoly_Space_Level.sig k), (56, novel_of.sig k)]
def novel_ask.cuts : List (Cut E (RT E.toTys [(false, .int .i64)])) := []
theorem novel_ask.ok (k : Nat) : Okf (XR E) Try.prog 62 (novel_ask.sig k) := ⟨fn_ok (C := fun k => tab.ctx fun f => lk f (novel_ask.calls k)) (fun k => tie _) k (fun j hj => calls_ok (kc (linpoly_Space_Dim.ok j) (kc (linpoly_Space_Level.ok j) (kc (novel_of.ok j) (kn))))) 400 Try.func62 (body := novel_ask.body) (res := [.tmp 4]) rfl (by kernel_rfl) novel_ask.cuts (kn) (fun x => by kernel_rfl), _, Try.func62, by kernel_rfl, by kernel_rfl⟩
/-! ### steeple/novel.wide: function 82 -/
def novel_wide.l2 : Nat → Int → Int → Option Int
  | 0, _, _ => none
  | k + 1, x0, x1 => if 0 ≤ x1 then (if shl .i64 1 x1 < x0 then novel_wide.l2 k x0 (wrap64 (x1 + 1)) else some x1) else none
def novel_wide.f (k : Nat) (a0 : Int) : Option Int := novel_wide.l2 k a0 0
def novel_wide.sig (k : Nat) : Sig E.toTys := ⟨[.int .i64], [(false, .int .i64)], none, fun x => f k x.1⟩
noncomputable def novel_wide.body : Code := Try.f82.body.getD .skip
def novel_wide.calls (k : Nat) : List (Nat × Sig E.toTys) := []
def novel_wide.cuts : List (Cut E (RT E.toTys [(false, .int .i64)])) := [⟨true, 2, ⟨cat [.one (.val (.int .i64))] (cat (ds 2) (cat [.one (.val (.int .i64))] (ds 7))), [], false⟩, fun k x => novel_wide.l2 k x.1.1 x.1.2.1⟩]
theorem novel_wide.ok (k : Nat) : Okf (XR E) Try.prog 82 (novel_wide.sig k) := ⟨fn_ok (C := fun k => tab.ctx fun f => lk f (novel_wide.calls k)) (fun k => tie _) k (fun j hj => calls_ok (kn)) 400 Try.func82 (body := novel_wide.body) (res := [.tmp 2]) rfl (by kernel_rfl) novel_wide.cuts (kc ⟨by kernel_rfl, rfl, fun _ => rfl, fun _ _ => by kernel_rfl⟩ (kn)) (fun x => by kernel_rfl), _, Try.func82, by kernel_rfl, by kernel_rfl⟩
/-! ### steeple/novel.add: function 83 -/
def novel_add.l1 : Nat → List S27 → Int → Int → List S27 → Option (List S27)
  | 0, _, _, _, _ => none
  | k + 1, x0, x1, x2, x3 => if x2 < x1 then (if 0 ≤ x2 then (if x2 < (x0.length : Int) then (if 0 ≤ x2 then (if x2 < (x3.length : Int) then ((tower_Add.f k (rd27 x3 x2) (rd27 x0 x2)).bind fun r0 => if 0 ≤ x2 then (if x2 < (x3.length : Int) then novel_add.l1 k x0 x1 (wrap64 (x2 + 1)) (x3.set (Int.toNat x2) r0) else none) else none) else none) else none) else none) else none) else some x3
def novel_add.f (k : Nat) (a0 : List S27) (a1 : List S27) : Option (List S27) := novel_add.l1 k a1 (a1.length : Int) 0 a0
def novel_add.sig (k : Nat) : Sig E.toTys := ⟨[.slice (.st 0), .slice (.st 0)], [(true, .slice (.st 0))], some 0, fun x => f k x.1 x.2.1⟩
noncomputable def novel_add.body : Code := Try.f83.body.getD .skip
def novel_add.calls (k : Nat) : List (Nat × Sig E.toTys) := [(20, tower_Add.sig k)]
def novel_add.cuts : List (Cut E (RT E.toTys [(true, .slice (.st 0))])) := [⟨true, 1, ⟨cat [.one (.ref 0)] (cat (ds 5) (cat [.one (.val (.slice (.st 0))), .one (.val (.int .i64)), .one (.val (.int .i64))] (ds 14))), [.arr (.st 0)], true⟩, fun k x => novel_add.l1 k x.1.1 x.1.2.1 x.1.2.2.1 x.2.1⟩]
theorem novel_add.ok (k : Nat) : Okf (XR E) Try.prog 83 (novel_add.sig k) := ⟨fn_okIO (C := fun k => tab.ctx fun f => lk f (novel_add.calls k)) (fun k => tie _) k (fun j hj => calls_ok (kc (tower_Add.ok j) (kn))) 400 0 Try.func83 (body := novel_add.body) (res := []) rfl (by kernel_rfl) novel_add.cuts (kc ⟨by kernel_rfl, rfl, fun _ => rfl, fun _ _ => by kernel_rfl⟩ (kn)) (fun x => by kernel_rfl), _, Try.func83, by kernel_rfl, by kernel_rfl⟩
/-! ### steeple/tower.One: function 59 -/
def tower_One.f (k : Nat) : Option S27 := some (⟨0, 1⟩ : S27)
def tower_One.sig (k : Nat) : Sig E.toTys := ⟨[], [(false, .st 0)], none, fun x => f k⟩
noncomputable def tower_One.body : Code := Try.f59.body.getD .skip
def tower_One.calls (k : Nat) : List (Nat × Sig E.toTys) := []
def tower_One.cuts : List (Cut E (RT E.toTys [(false, .st 0)])) := []
theorem tower_One.ok (k : Nat) : Okf (XR E) Try.prog 59 (tower_One.sig k) := ⟨fn_ok (C := fun k => tab.ctx fun f => lk f (tower_One.calls k)) (fun k => tie _) k (fun j hj => calls_ok (kn)) 400 Try.func59 (body := tower_One.body) (res := [.cell 0 27]) rfl (by kernel_rfl) tower_One.cuts (kn) (fun x => by kernel_rfl), _, Try.func59, by kernel_rfl, by kernel_rfl⟩
/-! ### steeple/tower.Square: function 95 -/
def tower_Square.f (k : Nat) (a0 : Int) (a1 : S27) : Option S27 := (octet_Of.f k a0 a1).bind fun r0 => if (!r0) = true then some (⟨0, 0⟩ : S27) else if a0 ≤ 6 then ((tower_square.f k a0 a1.f1).bind fun r1 => some (⟨0, r1⟩ : S27)) else (tower_square.f k 6 a1.f0).bind fun r2 => (tower_mulX.f k 6 r2).bind fun r3 => (tower_square.f k 6 a1.f1).bind fun r4 => some (⟨r3, bits .xor .u64 r4 r2⟩ : S27)
def tower_Square.sig (k : Nat) : Sig E.toTys := ⟨[.int .i64, .st 0], [(false, .st 0)], none, fun x => f k x.1 x.2.1⟩
noncomputable def tower_Square.body : Code := Try.f95.body.getD .skip
def tower_Square.calls (k : Nat) : List (Nat × Sig E.toTys) := [(50, octet_Of.sig k), (90, tower_square.sig k), (52, tower_mulX.sig k)]
def tower_Square.cuts : List (Cut E (RT E.toTys [(false, .st 0)])) := []
theorem tower_Square.ok (k : Nat) : Okf (XR E) Try.prog 95 (tower_Square.sig k) := ⟨fn_ok (C := fun k => tab.ctx fun f => lk f (tower_Square.calls k)) (fun k => tie _) k (fun j hj => calls_ok (kc (octet_Of.ok j) (kc (tower_square.ok j) (kc (tower_mulX.ok j) (kn))))) 400 Try.func95 (body := tower_Square.body) (res := [.cell 4 27]) rfl (by kernel_rfl) tower_Square.cuts (kn) (fun x => by kernel_rfl), _, Try.func95, by kernel_rfl, by kernel_rfl⟩
/-! ### (*steeple/linpoly.Space).Coeffs: function 91 -/
mutual
def linpoly_Space_Coeffs.l5 : Nat → Option S80 → Int → Int → List S27 → Option (List S27)
  | 0, _, _, _, _ => none
  | k + 1, x0, x1, x2, x3 => if x2 < x1 then (if 0 ≤ wrap64 ((x3.length : Int) + 1) then (if wrap64 ((x3.length : Int) + 1) ≤ 140737488355328 / ((16 : Nat) : Int) then linpoly_Space_Coeffs.l9 k x0 x2 x1 x2 (x3.length : Int) 0 (List.replicate (Int.toNat (wrap64 ((x3.length : Int) + 1))) z27) x3 else none) else none) else some x3
def linpoly_Space_Coeffs.l9 : Nat → Option S80 → Int → Int → Int → Int → Int → List S27 → List S27 → Option (List S27)
  | 0, _, _, _, _, _, _, _, _ => none
  | k + 1, x0, x1, x2, x3, x4, x5, x6, x7 => if x5 < x4 then (if 0 ≤ x5 then (if x5 < (x7.length : Int) then (if 0 ≤ wrap64 (x5 + 1) then (if wrap64 (x5 + 1) < (x6.length : Int) then ((match x0 with | none => none | some r2 => (tower_Square.f k r2.f0 (rd27 x7 x5)).bind fun r3 => (tower_Add.f k (rd27 x6 (wrap64 (x5 + 1))) r3).bind fun r4 => if 0 ≤ wrap64 (x5 + 1) then (if wrap64 (x5 + 1) < (x6.length : Int) then (if 0 ≤ x5 then (if x5 < ((x6.set (Int.toNat (wrap64 (x5 + 1))) r4).length : Int) then ((match x0 with | none => none | some r5 => (match x0 with | none => none | some r6 => if 0 ≤ x1 then (if x1 < (r6.f2.length : Int) then ((tower_Mul.f k r5.f0 (rd27 x7 x5) (rd27 r6.f2 x1)).bind fun r7 => (tower_Add.f k (rd27 (x6.set (Int.toNat (wrap64 (x5 + 1))) r4) x5) r7).bind fun r8 => if 0 ≤ x5 then (if x5 < ((x6.set (Int.toNat (wrap64 (x5 + 1))) r4).length : Int) then linpoly_Space_Coeffs.l9 k x0 x1 x2 x3 x4 (wrap64 (x5 + 1)) ((x6.set (Int.toNat (wrap64 (x5 + 1))) r4).set (Int.toNat x5) r8) x7 else none) else none) else none) else none))) else none) else none) else none) else none)) else none) else none) else none) else none) else linpoly_Space_Coeffs.l5 k x0 x2 (wrap64 (x3 + 1)) x6
end
def linpoly_Space_Coeffs.f (k : Nat) (a0 : Option S80) (a1 : Int) : Option (List S27) := (match a0 with | none => some [] | some _ => if a1 < 0 then some [] else (match a0 with | none => none | some r0 => if a1 > (r0.f1.length : Int) then some [] else (tower_One.f k).bind fun r1 => linpoly_Space_Coeffs.l5 k a0 a1 0 [r1]))
def linpoly_Space_Coeffs.sig (k : Nat) : Sig E.toTys := ⟨[.ptr (.st 3), .int .i64], [(true, .slice (.st 0))], none, fun x => f k x.1 x.2.1⟩
noncomputable def linpoly_Space_Coeffs.body : Code := Try.f91.body.getD .skip
def linpoly_Space_Coeffs.calls (k : Nat) : List (Nat × Sig E.toTys) := [(59, tower_One.sig k), (95, tower_Square.sig k), (20, tower_Add.sig k), (21, tower_Mul.sig k)]
def linpoly_Space_Coeffs.cuts : List (Cut E (RT E.toTys [(true, .slice (.st 0))])) := [⟨true, 5, ⟨cat [.one (.val (.ptr (.st 3)))] (cat (ds 4) (cat [.one (.ref 0)] (cat (ds 21) (cat [.one (.val (.int .i64)), .one (.val (.int .i64))] (ds 54))))), [.arr (.st 0)], false⟩, fun k x => linpoly_Space_Coeffs.l5 k x.1.1 x.1.2.1 x.1.2.2.1 x.2.1⟩,
  ⟨true, 9, ⟨cat [.one (.val (.ptr (.st 3)))] (cat (ds 5) (cat [.one (.val (.int .i64)), .one (.ref 0)] (cat (ds 19) (cat [.one (.val (.int .i64)), .one (.val (.int .i64))] (cat (ds 6) (cat [.one (.ref 1), .one (.val (.int .i64)), .one (.val (.int .i64))] (ds 45))))))), [.arr (.st 0), .arr (.st 0)], false⟩, fun k x => linpoly_Space_Coeffs.l9 k x.1.1 x.1.2.1 x.1.2.2.1 x.1.2.2.2.1 x.1.2.2.2.2.1 x.1.2.2.2.2.2.1 x.2.1 x.2.2.1⟩]
theorem linpoly_Space_Coeffs.ok (k : Nat) : Okf (XR E) Try.prog 91 (linpoly_Space_Coeffs.sig k) := ⟨fn_ok (C := fun k => tab.ctx fun f => lk f (linpoly_Space_Coeffs.calls k)) (fun k => tie _) k (fun j hj => calls_ok (kc (tower_One.ok j) (kc (tower_Square.ok j) (kc (tower_Add.ok j) (kc (tower_Mul.ok j) (kn)))))) 400 Try.func91 (body := linpoly_Space_Coeffs.body) (res := [.tmp 4]) rfl (by kernel_rfl) linpoly_Space_Coeffs.cuts (kc ⟨by kernel_rfl, rfl, fun _ => rfl, fun _ _ => by kernel_rfl⟩ (kc ⟨by kernel_rfl, rfl, fun _ => rfl, fun _ _ => by kernel_rfl⟩ (kn))) (fun x => by kernel_rfl), _, Try.func91, by kernel_rfl, by kernel_rfl⟩
/-! ### (*steeple/linpoly.Space).Value: function 92 -/
def linpoly_Space_Value.j2 : Nat → Int → Int → Option S27
  | 0, _, _ => none
  | k + 1, _, _ => some (⟨0, 0⟩ : S27)
def linpoly_Space_Value.f (k : Nat) (a0 : Option S80) (a1 : Int) (a2 : S27) : Option S27 := (match a0 with | none => linpoly_Space_Value.j2 k 0 0 | some _ => if a1 < 0 then linpoly_Space_Value.j2 k 0 0 else (match a0 with | none => none | some r0 => if a1 > (r0.f1.length : Int) then linpoly_Space_Value.j2 k 0 0 else (match a0 with | none => none | some r1 => (octet_Of.f k r1.f0 a2).bind fun r2 => if (!r2) = true then linpoly_Space_Value.j2 k 0 0 else (linpoly_Space_value.f k a0 a1 a2).bind fun r3 => some r3)))
def linpoly_Space_Value.sig (k : Nat) : Sig E.toTys := ⟨[.ptr (.st 3), .int .i64, .st 0], [(false, .st 0)], none, fun x => f k x.1 x.2.1 x.2.2.1⟩
noncomputable def linpoly_Space_Value.body : Code := Try.f92.body.getD .skip
def linpoly_Space_Value.calls (k : Nat) : List (Nat × Sig E.toTys) := [(50, octet_Of.sig k), (76, linpoly_Space_value.sig k)]
def linpoly_Space_Value.cuts : List (Cut E (RT E.toTys [(false, .st 0)])) := [⟨false, 2, ⟨cat (ds 6) (cat [.one (.ptr 0 0)] (ds 29)), [.var [.val (.int .u64), .val (.int .u64)]], false⟩, fun k x => linpoly_Space_Value.j2 k x.2.1.1 x.2.1.2.1⟩]
theorem linpoly_Space_Value.ok (k : Nat) : Okf (XR E) Try.prog 92 (linpoly_Space_Value.sig k) := ⟨fn_ok (C := fun k => tab.ctx fun f => lk f (linpoly_Space_Value.calls k)) (fun k => tie _) k (fun j hj => calls_ok (kc (octet_Of.ok j) (kc (linpoly_Space_value.ok j) (kn)))) 400 Try.func92 (body := linpoly_Space_Value.body) (res := [.cell 6 27]) rfl (by kernel_rfl) linpoly_Space_Value.cuts (kc ⟨by kernel_rfl, rfl, fun _ => rfl, fun _ _ => by kernel_rfl⟩ (kn)) (fun x => by kernel_rfl), _, Try.func92, by kernel_rfl, by kernel_rfl⟩
/-! ### steeple/novel.norm: function 84 -/
def novel_norm.l5 : Nat → Option S80 → Int → Int → Int → Int → List S27 → List S27 → Option (List S27)
  | 0, _, _, _, _, _, _, _ => none
  | k + 1, x0, x1, x2, x3, x4, x5, x6 => if x2 < x1 then (if 0 ≤ x2 then (if x2 < (x6.length : Int) then (if 0 ≤ x2 then ((linpoly_Space_Level.f k x0).bind fun r5 => (tower_Mul.f k r5 (rd27 x6 x2) (⟨x3, x4⟩ : S27)).bind fun r6 => if 0 ≤ shl .i64 1 x2 then (if shl .i64 1 x2 < (x5.length : Int) then novel_norm.l5 k x0 x1 (wrap64 (x2 + 1)) x3 x4 (x5.set (Int.toNat (shl .i64 1 x2)) r6) x6 else none) else none) else none) else none) else none) else some x5
def novel_norm.f (k : Nat) (a0 : Option S80) (a1 : Int) : Option (List S27) := (linpoly_Space_Coeffs.f k a0 a1).bind fun r0 => (linpoly_Space_Level.f k a0).bind fun r1 => if 0 ≤ a1 then ((linpoly_Space_Point.f k a0 (shl .i64 1 a1)).bind fun r2 => (linpoly_Space_Value.f k a0 a1 r2).bind fun r3 => (tower_Inv.f k r1 r3).bind fun r4 => if 0 ≤ a1 then (if 0 ≤ wrap64 ((shl .i64 1 a1) + 1) then (if wrap64 ((shl .i64 1 a1) + 1) ≤ 140737488355328 / ((16 : Nat) : Int) then novel_norm.l5 k a0 (r0.length : Int) 0 r4.f0 r4.f1 (List.replicate (Int.toNat (wrap64 ((shl .i64 1 a1) + 1))) z27) r0 else none) else none) else none) else none
def novel_norm.sig (k : Nat) : Sig E.toTys := ⟨[.ptr (.st 3), .int .i64], [(true, .slice (.st 0))], none, fun x => f k x.1 x.2.1⟩
noncomputable def novel_norm.body : Code := Try.f84.body.getD .skip
def novel_norm.calls (k : Nat) : List (Nat × Sig E.toTys) := [(91, linpoly_Space_Coeffs.sig k), (46, linpoly_Space_Level.sig k), (22, linpoly_Space_Point.sig k), (92, linpoly_Space_Value.sig k), (81, tower_Inv.sig k), (21, tower_Mul.sig k)]
def novel_norm.cuts : List (Cut E (RT E.toTys [(true, .slice (.st 0))])) := [⟨true, 5, ⟨cat [.one (.val (.ptr (.st 3)))] (cat (ds 5) (cat [.one (.ptr 0 0), .one (.ref 1)] (cat (ds 19) (cat [.one (.ref 2), .one (.val (.int .i64)), .one (.val (.int .i64))] (ds 15))))), [.var [.val (.int .u64), .val (.int .u64)], .arr (.st 0), .arr (.st 0)], false⟩, fun k x => novel_norm.l5 k x.1.1 x.1.2.1 x.1.2.2.1 x.2.1.1 x.2.1.2.1 x.2.2.1 x.2.2.2.1⟩]
theorem novel_norm.ok (k : Nat) : Okf (XR E) Try.prog 84 (novel_norm.sig k) := ⟨fn_ok (C := fun k => tab.ctx fun f => lk f (novel_norm.calls k)) (fun k => tie _) k (fun j hj => calls_ok (kc (linpoly_Space_Coeffs.ok j) (kc (linpoly_Space_Level.ok j) (kc (linpoly_Space_Point.ok j) (kc (linpoly_Space_Value.ok j) (kc (tower_Inv.ok j) (kc (tower_Mul.ok j) (kn)))))))) 400 Try.func84 (body := novel_norm.body) (res := [.tmp 4]) rfl (by kernel_rfl) novel_norm.cuts (kc ⟨by kernel_rfl, rfl, fun _ => rfl, fun _ _ => by kernel_rfl⟩ (kn)) (fun x => by kernel_rfl), _, Try.func84, by kernel_rfl, by kernel_rfl⟩
/-! ### steeple/novel.Times: function 26 -/
mutual
def novel_Times.j2 : Nat → Option (List S27)
  | 0 => none
  | k + 1 => some []
def novel_Times.l5 : Nat → Int → List S27 → List S27 → Int → Int → List S27 → Option (List S27)
  | 0, _, _, _, _, _, _ => none
  | k + 1, x0, x1, x2, x3, x4, x5 => if x4 < x3 then (if 0 ≤ x4 then (if x4 < (x2.length : Int) then novel_Times.l8 k x0 x1 x4 x2 x3 x4 x1 (x1.length : Int) 0 x5 (rd27 x2 x4).f0 (rd27 x2 x4).f1 else none) else none) else some x5
def novel_Times.l8 : Nat → Int → List S27 → Int → List S27 → Int → Int → List S27 → Int → Int → List S27 → Int → Int → Option (List S27)
  | 0, _, _, _, _, _, _, _, _, _, _, _, _ => none
  | k + 1, x0, x1, x2, x3, x4, x5, x6, x7, x8, x9, x10, x11 => if x8 < x7 then (if 0 ≤ x8 then (if x8 < (x6.length : Int) then (if 0 ≤ wrap64 (x2 + x8) then (if wrap64 (x2 + x8) < (x9.length : Int) then ((tower_Mul.f k x0 (⟨x10, x11⟩ : S27) (rd27 x6 x8)).bind fun r3 => (tower_Add.f k (rd27 x9 (wrap64 (x2 + x8))) r3).bind fun r4 => if 0 ≤ wrap64 (x2 + x8) then (if wrap64 (x2 + x8) < (x9.length : Int) then novel_Times.l8 k x0 x1 x2 x3 x4 x5 x6 x7 (wrap64 (x8 + 1)) (x9.set (Int.toNat (wrap64 (x2 + x8))) r4) x10 x11 else none) else none) else none) else none) else none) else none) else novel_Times.l5 k x0 x1 x3 x4 (wrap64 (x5 + 1)) x9
end
def novel_Times.f (k : Nat) (a0 : Int) (a1 : List S27) (a2 : List S27) : Option (List S27) := if (a1.length : Int) = 0 then novel_Times.j2 k else if (a2.length : Int) = 0 then novel_Times.j2 k else (octet_Wide.f k a0).bind fun r0 => if r0 = 0 then novel_Times.j2 k else (novel_of.f k a0 a1).bind fun r1 => if (!r1) = true then novel_Times.j2 k else (novel_of.f k a0 a2).bind fun r2 => if (!r2) = true then novel_Times.j2 k else if 0 ≤ wrap64 ((wrap64 ((a1.length : Int) + (a2.length : Int))) - 1) then (if wrap64 ((wrap64 ((a1.length : Int) + (a2.length : Int))) - 1) ≤ 140737488355328 / ((16 : Nat) : Int) then novel_Times.l5 k a0 a2 a1 (a1.length : Int) 0 (List.replicate (Int.toNat (wrap64 ((wrap64 ((a1.length : Int) + (a2.length : Int))) - 1))) z27) else none) else none
def novel_Times.sig (k : Nat) : Sig E.toTys := ⟨[.int .i64, .slice (.st 0), .slice (.st 0)], [(true, .slice (.st 0))], none, fun x => f k x.1 x.2.1 x.2.2.1⟩
noncomputable def novel_Times.body : Code := Try.f26.body.getD .skip
def novel_Times.calls (k : Nat) : List (Nat × Sig E.toTys) := [(55, octet_Wide.sig k), (56, novel_of.sig k), (21, tower_Mul.sig k), (20, tower_Add.sig k)]
def novel_Times.cuts : List (Cut E (RT E.toTys [(true, .slice (.st 0))])) := [⟨false, 2, ⟨ds 77, [], false⟩, fun k x => novel_Times.j2 k⟩,
  ⟨true, 5, ⟨cat [.one (.val (.int .i64))] (cat (ds 1) (cat [.one (.val (.slice (.st 0)))] (cat (ds 4) (cat [.one (.ref 0)] (cat (ds 36) (cat [.one (.val (.slice (.st 0))), .one (.val (.int .i64)), .one (.val (.int .i64))] (ds 30))))))), [.arr (.st 0)], false⟩, fun k x => novel_Times.l5 k x.1.1 x.1.2.1 x.1.2.2.1 x.1.2.2.2.1 x.1.2.2.2.2.1 x.2.1⟩,
  ⟨true, 8, ⟨cat [.one (.val (.int .i64))] (cat (ds 1) (cat [.one (.val (.slice (.st 0)))] (cat (ds 4) (cat [.one (.ref 0), .one (.val (.int .i64)), .one (.ptr 1 0)] (cat (ds 34) (cat [.one (.val (.slice (.st 0))), .one (.val (.int .i64)), .one (.val (.int .i64))] (cat (ds 4) (cat [.one (.val (.slice (.st 0))), .one (.val (.int .i64)), .one (.val (.int .i64))] (ds 23))))))))), [.arr (.st 0), .var [.val (.int .u64), .val (.int .u64)]], false⟩, fun k x => novel_Times.l8 k x.1.1 x.1.2.1 x.1.2.2.1 x.1.2.2.2.1 x.1.2.2.2.2.1 x.1.2.2.2.2.2.1 x.1.2.2.2.2.2.2.1 x.1.2.2.2.2.2.2.2.1 x.1.2.2.2.2.2.2.2.2.1 x.2.1 x.2.2.1.1 x.2.2.1.2.1⟩]
theorem novel_Times.ok (k : Nat) : Okf (XR E) Try.prog 26 (novel_Times.sig k) := ⟨fn_ok (C := fun k => tab.ctx fun f => lk f (novel_Times.calls k)) (fun k => tie _) k (fun j hj => calls_ok (kc (octet_Wide.ok j) (kc (novel_of.ok j) (kc (tower_Mul.ok j) (kc (tower_Add.ok j) (kn)))))) 400 Try.func26 (body := novel_Times.body) (res := [.tmp 6]) rfl (by kernel_rfl) novel_Times.cuts (kc ⟨by kernel_rfl, rfl, fun _ => rfl, fun _ _ => by kernel_rfl⟩ (kc ⟨by kernel_rfl, rfl, fun _ => rfl, fun _ _ => by kernel_rfl⟩ (kc ⟨by kernel_rfl, rfl, fun _ => rfl, fun _ _ => by kernel_rfl⟩ (kn)))) (fun x => by kernel_rfl), _, Try.func26, by kernel_rfl, by kernel_rfl⟩
/-! ### steeple/novel.powers: function 65 -/
def novel_powers.f : Nat → Option S80 → List S27 → Option (List S27)
  | 0, _, _ => none
  | k + 1, a0, a1 => if (a1.length : Int) ≤ 1 then ((slices_Clone44.f k a1).bind fun r0 => some r0) else (novel_wide.f k (a1.length : Int)).bind fun r1 => if 0 ≤ wrap64 (r1 - 1) then (if 0 ≤ (a1.length : Int) then (if (a1.length : Int) ≤ 140737488355328 / ((16 : Nat) : Int) then (if shl .i64 1 (wrap64 (r1 - 1)) = shl .i64 1 (wrap64 (r1 - 1)) then (if 0 ≤ shl .i64 1 (wrap64 (r1 - 1)) then (if shl .i64 1 (wrap64 (r1 - 1)) ≤ (a1.length : Int) then ((novel_powers.f k a0 (a1.take (Int.toNat (shl .i64 1 (wrap64 (r1 - 1)))))).bind fun r2 => (novel_add.f k (List.replicate (Int.toNat (a1.length : Int)) z27) r2).bind fun r3 => (linpoly_Space_Level.f k a0).bind fun r4 => if 0 ≤ shl .i64 1 (wrap64 (r1 - 1)) then (if shl .i64 1 (wrap64 (r1 - 1)) ≤ (a1.length : Int) then ((novel_powers.f k a0 (a1.drop (Int.toNat (shl .i64 1 (wrap64 (r1 - 1)))))).bind fun r5 => (novel_norm.f k a0 (wrap64 (r1 - 1))).bind fun r6 => (novel_Times.f k r4 r5 r6).bind fun r7 => (novel_add.f k r3 r7).bind fun r8 => some r8) else none) else none) else none) else none) else none) else none) else none) else none
def novel_powers.sig (k : Nat) : Sig E.toTys := ⟨[.ptr (.st 3), .slice (.st 0)], [(true, .slice (.st 0))], none, fun x => f k x.1 x.2.1⟩
noncomputable def novel_powers.body : Code := Try.f65.body.getD .skip
def novel_powers.calls (k : Nat) : List (Nat × Sig E.toTys) := [(44, slices_Clone44.sig k), (82, novel_wide.sig k), (65, novel_powers.sig k), (83, novel_add.sig k), (46, linpoly_Space_Level.sig k), (84, novel_norm.sig k), (26, novel_Times.sig k)]
def novel_powers.cuts : List (Cut E (RT E.toTys [(true, .slice (.st 0))])) := []
theorem novel_powers.oks (k : Nat) : Okf (XR E) Try.prog 65 (novel_powers.sig k) := by
  induction k using Nat.strongRecOn with
  | ind k ih =>
  cases k with
  | zero => exact ⟨ok0 fun _ => rfl, _, Try.func65, by kernel_rfl, by kernel_rfl⟩
  | succ k => exact ⟨fn_ok (C := fun k => tab.ctx fun f => lk f (novel_powers.calls k)) (fun k => tie _) k (fun j hj => calls_ok (kc (slices_Clone44.ok j) (kc (novel_wide.ok j) (kc (ih j (Nat.lt_succ_of_le hj)) (kc (novel_add.ok j) (kc (linpoly_Space_Level.ok j) (kc (novel_norm.ok j) (kc (novel_Times.ok j) (kn))))))))) 400 Try.func65 (body := novel_powers.body) (res := [.tmp 4]) rfl (by kernel_rfl) novel_powers.cuts (kn) (fun x => by kernel_rfl), _, Try.func65, by kernel_rfl, by kernel_rfl⟩
theorem novel_powers.ok (k : Nat) : Okf (XR E) Try.prog 65 (novel_powers.sig k) := (novel_powers.oks k)
/-! ### steeple/novel.Powers: function 40 -/
def novel_Powers.f (k : Nat) (a0 : Option S80) (a1 : List S27) : Option ((List S27) × Int) := (novel_ask.f k a0 a1).bind fun r0 => if r0 = 0 then ((novel_powers.f k a0 a1).bind fun r1 => some (r1, 0)) else some ([], r0)
def novel_Powers.sig (k : Nat) : Sig E.toTys := ⟨[.ptr (.st 3), .slice (.st 0)], [(true, .slice (.st 0)), (false, .int .i64)], none, fun x => f k x.1 x.2.1⟩
noncomputable def novel_Powers.body : Code := Try.f40.body.getD .skip
def novel_Powers.calls (k : Nat) : List (Nat × Sig E.toTys) := [(62, novel_ask.sig k), (65, novel_powers.sig k)]
def novel_Powers.cuts : List (Cut E (RT E.toTys [(true, .slice (.st 0)), (false, .int .i64)])) := []
theorem novel_Powers.ok (k : Nat) : Okf (XR E) Try.prog 40 (novel_Powers.sig k) := ⟨fn_ok (C := fun k => tab.ctx fun f => lk f (novel_Powers.calls k)) (fun k => tie _) k (fun j hj => calls_ok (kc (novel_ask.ok j) (kc (novel_powers.ok j) (kn)))) 400 Try.func40 (body := novel_Powers.body) (res := [.tmp 4, .tmp 5]) rfl (by kernel_rfl) novel_Powers.cuts (kn) (fun x => by kernel_rfl), _, Try.func40, by kernel_rfl, by kernel_rfl⟩
/-! ### steeple/steeplelaw06.awake: function 25 -/
def steeplelaw06_awake.f (k : Nat) : Option Bool := (linpoly_Plain.f k 1 2).bind fun r0 => (steeplelaw06_elems.f k [0, 0, 0, 1]).bind fun r1 => (novel_Powers.f k r0.1 r1).bind fun r2 => if r0.2 = 0 then (if r2.2 = 0 then ((steeplelaw06_elems.f k [0, 0, 1, 1]).bind fun r3 => (steeplelaw01_Ref.f k r3).bind fun r4 => (steeplelaw01_Same.f k r2.1 r4).bind fun r5 => some r5) else some false) else some false
def steeplelaw06_awake.sig (k : Nat) : Sig E.toTys := ⟨[], [(false, .bool)], none, fun x => f k⟩
noncomputable def steeplelaw06_awake.body : Code := Try.f25.body.getD .skip
def steeplelaw06_awake.calls (k : Nat) : List (Nat × Sig E.toTys) := [(42, linpoly_Plain.sig k), (54, steeplelaw06_elems.sig k), (40, novel_Powers.sig k), (15, steeplelaw01_Ref.sig k), (17, steeplelaw01_Same.sig k)]
def steeplelaw06_awake.cuts : List (Cut E (RT E.toTys [(false, .bool)])) := []
theorem steeplelaw06_awake.ok (k : Nat) : Okf (XR E) Try.prog 25 (steeplelaw06_awake.sig k) := ⟨fn_ok (C := fun k => tab.ctx fun f => lk f (steeplelaw06_awake.calls k)) (fun k => tie _) k (fun j hj => calls_ok (kc (linpoly_Plain.ok j) (kc (steeplelaw06_elems.ok j) (kc (novel_Powers.ok j) (kc (steeplelaw01_Ref.ok j) (kc (steeplelaw01_Same.ok j) (kn))))))) 400 Try.func25 (body := steeplelaw06_awake.body) (res := [.tmp 0]) rfl (by kernel_rfl) steeplelaw06_awake.cuts (kn) (fun x => by kernel_rfl), _, Try.func25, by kernel_rfl, by kernel_rfl⟩
/-! ### steeple/steepleref06.Times: function 27 -/
mutual
def steepleref06_Times.j3 : Nat → Option (List S38)
  | 0 => none
  | k + 1 => some []
def steepleref06_Times.l5 : Nat → List S38 → List S38 → Int → List S38 → Option (List S38)
  | 0, _, _, _, _ => none
  | k + 1, x0, x1, x2, x3 => if x2 < wrap64 ((wrap64 ((x0.length : Int) + (x1.length : Int))) - 1) then steepleref06_Times.l9 k x0 x1 x2 0 x3 0 0 else some x3
def steepleref06_Times.l9 : Nat → List S38 → List S38 → Int → Int → List S38 → Int → Int → Option (List S38)
  | 0, _, _, _, _, _, _, _ => none
  | k + 1, x0, x1, x2, x3, x4, x5, x6 => if x3 < (x0.length : Int) then (if wrap64 (x2 - x3) ≥ 0 then (if wrap64 (x2 - x3) < (x1.length : Int) then (if 0 ≤ x3 then (if x3 < (x0.length : Int) then (if 0 ≤ wrap64 (x2 - x3) then (if wrap64 (x2 - x3) < (x1.length : Int) then ((steepleref02_Product.f k (rd38 x0 x3) (rd38 x1 (wrap64 (x2 - x3)))).bind fun r2 => (steepleref02_Add.f k (⟨x5, x6⟩ : S38) r2).bind fun r3 => steepleref06_Times.j10 k x0 x1 x2 x3 x4 r3.f0 r3.f1) else none) else none) else none) else none) else steepleref06_Times.j10 k x0 x1 x2 x3 x4 x5 x6) else steepleref06_Times.j10 k x0 x1 x2 x3 x4 x5 x6) else if x4.length + [(⟨x5, x6⟩ : S38)].length ≤ 140737488355328 / 16 then steepleref06_Times.l5 k x0 x1 (wrap64 (x2 + 1)) (x4 ++ [(⟨x5, x6⟩ : S38)]) else none
def steepleref06_Times.j10 : Nat → List S38 → List S38 → Int → Int → List S38 → Int → Int → Option (List S38)
  | 0, _, _, _, _, _, _, _ => none
  | k + 1, x0, x1, x2, x3, x4, x5, x6 => steepleref06_Times.l9 k x0 x1 x2 (wrap64 (x3 + 1)) x4 x5 x6
end
def steepleref06_Times.f (k : Nat) (a0 : Int) (a1 : List S38) (a2 : List S38) : Option (List S38) := if (a1.length : Int) = 0 then steepleref06_Times.j3 k else if (a2.length : Int) = 0 then steepleref06_Times.j3 k else (steepleref06_All.f k a0 a1).bind fun r0 => if (!r0) = true then steepleref06_Times.j3 k else (steepleref06_All.f k a0 a2).bind fun r1 => if (!r1) = true then steepleref06_Times.j3 k else steepleref06_Times.l5 k a1 a2 0 []
def steepleref06_Times.sig (k : Nat) : Sig E.toTys := ⟨[.int .i64, .slice (.st 4), .slice (.st 4)], [(true, .slice (.st 4))], none, fun x => f k x.1 x.2.1 x.2.2.1⟩
noncomputable def steepleref06_Times.body : Code := Try.f27.body.getD .skip
def steepleref06_Times.calls (k : Nat) : List (Nat × Sig E.toTys) := [(39, steepleref06_All.sig k), (58, steepleref02_Product.sig k), (57, steepleref02_Add.sig k)]
def steepleref06_Times.cuts : List (Cut E (RT E.toTys [(true, .slice (.st 4))])) := [⟨false, 3, ⟨ds 77, [], false⟩, fun k x => steepleref06_Times.j3 k⟩,
  ⟨true, 5, ⟨cat (ds 1) (cat [.one (.val (.slice (.st 4))), .one (.val (.slice (.st 4)))] (cat (ds 4) (cat [.one (.ref 0), .one (.val (.int .i64))] (ds 68)))), [.arr (.st 4)], false⟩, fun k x => steepleref06_Times.l5 k x.1.1 x.1.2.1 x.1.2.2.1 x.2.1⟩,
  ⟨true, 9, ⟨cat (ds 1) (cat [.one (.val (.slice (.st 4))), .one (.val (.slice (.st 4)))] (cat (ds 4) (cat [.one (.ref 0), .one (.val (.int .i64)), .one (.ptr 1 0), .one (.val (.int .i64))] (ds 66)))), [.arr (.st 4), .var [.val (.int .u64), .val (.int .u64)]], false⟩, fun k x => steepleref06_Times.l9 k x.1.1 x.1.2.1 x.1.2.2.1 x.1.2.2.2.1 x.2.1 x.2.2.1.1 x.2.2.1.2.1⟩,
  ⟨false, 10, ⟨cat (ds 1) (cat [.one (.val (.slice (.st 4))), .one (.val (.slice (.st 4)))] (cat (ds 4) (cat [.one (.ref 0), .one (.val (.int .i64)), .one (.ptr 1 0), .one (.val (.int .i64))] (ds 66)))), [.arr (.st 4), .var [.val (.int .u64), .val (.int .u64)]], false⟩, fun k x => steepleref06_Times.j10 k x.1.1 x.1.2.1 x.1.2.2.1 x.1.2.2.2.1 x.2.1 x.2.2.1.1 x.2.2.1.2.1⟩]
theorem steepleref06_Times.ok (k : Nat) : Okf (XR E) Try.prog 27 (steepleref06_Times.sig k) := ⟨fn_ok (C := fun k => tab.ctx fun f => lk f (steepleref06_Times.calls k)) (fun k => tie _) k (fun j hj => calls_ok (kc (steepleref06_All.ok j) (kc (steepleref02_Product.ok j) (kc (steepleref02_Add.ok j) (kn))))) 400 Try.func27 (body := steepleref06_Times.body) (res := [.tmp 6]) rfl (by kernel_rfl) steepleref06_Times.cuts (kc ⟨by kernel_rfl, rfl, fun _ => rfl, fun _ _ => by kernel_rfl⟩ (kc ⟨by kernel_rfl, rfl, fun _ => rfl, fun _ _ => by kernel_rfl⟩ (kc ⟨by kernel_rfl, rfl, fun _ => rfl, fun _ _ => by kernel_rfl⟩ (kc ⟨by kernel_rfl, rfl, fun _ => rfl, fun _ _ => by kernel_rfl⟩ (kn))))) (fun x => by kernel_rfl), _, Try.func27, by kernel_rfl, by kernel_rfl⟩
/-! ### steeple/novel.At: function 28 -/
def novel_At.l5 : Nat → Int → List S27 → Int → Int → Int → Int → Int → Int → Int → Option S27
  | 0, _, _, _, _, _, _, _, _, _ => none
  | k + 1, x0, x1, x2, x3, x4, x5, x6, x7, x8 => if x2 ≥ 0 then ((tower_Mul.f k x0 (⟨x7, x8⟩ : S27) (⟨x3, x4⟩ : S27)).bind fun r2 => if 0 ≤ x2 then (if x2 < (x1.length : Int) then ((tower_Add.f k r2 (rd27 x1 x2)).bind fun r3 => novel_At.l5 k x0 x1 (wrap64 (x2 - 1)) x3 x4 x5 x6 r3.f0 r3.f1) else none) else none) else some (⟨x7, x8⟩ : S27)
def novel_At.f (k : Nat) (a0 : Int) (a1 : List S27) (a2 : S27) : Option S27 := (octet_Of.f k a0 a2).bind fun r0 => if (!r0) = true then some (⟨0, 0⟩ : S27) else (novel_of.f k a0 a1).bind fun r1 => if (!r1) = true then some (⟨0, 0⟩ : S27) else novel_At.l5 k a0 a1 (wrap64 ((a1.length : Int) - 1)) a2.f0 a2.f1 0 0 0 0
def novel_At.sig (k : Nat) : Sig E.toTys := ⟨[.int .i64, .slice (.st 0), .st 0], [(false, .st 0)], none, fun x => f k x.1 x.2.1 x.2.2.1⟩
noncomputable def novel_At.body : Code := Try.f28.body.getD .skip
def novel_At.calls (k : Nat) : List (Nat × Sig E.toTys) := [(50, octet_Of.sig k), (56, novel_of.sig k), (21, tower_Mul.sig k), (20, tower_Add.sig k)]
def novel_At.cuts : List (Cut E (RT E.toTys [(false, .st 0)])) := [⟨true, 5, ⟨cat [.one (.val (.int .i64)), .one (.val (.slice (.st 0)))] (cat (ds 3) (cat [.one (.ptr 0 0), .one (.ptr 1 0), .one (.ptr 2 0), .one (.val (.int .i64))] (ds 28))), [.var [.val (.int .u64), .val (.int .u64)], .var [.val (.int .u64), .val (.int .u64)], .var [.val (.int .u64), .val (.int .u64)]], false⟩, fun k x => novel_At.l5 k x.1.1 x.1.2.1 x.1.2.2.1 x.2.1.1 x.2.1.2.1 x.2.2.1.1 x.2.2.1.2.1 x.2.2.2.1.1 x.2.2.2.1.2.1⟩]
theorem novel_At.ok (k : Nat) : Okf (XR E) Try.prog 28 (novel_At.sig k) := ⟨fn_ok (C := fun k => tab.ctx fun f => lk f (novel_At.calls k)) (fun k => tie _) k (fun j hj => calls_ok (kc (octet_Of.ok j) (kc (novel_of.ok j) (kc (tower_Mul.ok j) (kc (tower_Add.ok j) (kn)))))) 400 Try.func28 (body := novel_At.body) (res := [.cell 6 27]) rfl (by kernel_rfl) novel_At.cuts (kc ⟨by kernel_rfl, rfl, fun _ => rfl, fun _ _ => by kernel_rfl⟩ (kn)) (fun x => by kernel_rfl), _, Try.func28, by kernel_rfl, by kernel_rfl⟩
/-! ### steeple/steepleref06.At: function 29 -/
def steepleref06_At.l6 : Nat → List S38 → Int → Int → Int → Int → Int → Int → Int → Int → Int → Option S38
  | 0, _, _, _, _, _, _, _, _, _, _ => none
  | k + 1, x0, x1, x2, x3, x4, x5, x6, x7, x8, x9 => if x1 < (x0.length : Int) then (if 0 ≤ x1 then (if x1 < (x0.length : Int) then ((steepleref02_Product.f k (rd38 x0 x1) (⟨x8, x9⟩ : S38)).bind fun r2 => (steepleref02_Add.f k (⟨x6, x7⟩ : S38) r2).bind fun r3 => (steepleref02_Product.f k (⟨x8, x9⟩ : S38) (⟨x2, x3⟩ : S38)).bind fun r4 => steepleref06_At.l6 k x0 (wrap64 (x1 + 1)) x2 x3 x4 x5 r3.f0 r3.f1 r4.f0 r4.f1) else none) else none) else some (⟨x6, x7⟩ : S38)
def steepleref06_At.f (k : Nat) (a0 : Int) (a1 : List S38) (a2 : S38) : Option S38 := (steepleref01_Of.f k a0 a2).bind fun r0 => if (!r0) = true then some (⟨0, 0⟩ : S38) else (steepleref06_All.f k a0 a1).bind fun r1 => if (!r1) = true then some (⟨0, 0⟩ : S38) else steepleref06_At.l6 k a1 0 a2.f0 a2.f1 0 0 0 0 0 1
def steepleref06_At.sig (k : Nat) : Sig E.toTys := ⟨[.int .i64, .slice (.st 4), .st 4], [(false, .st 4)], none, fun x => f k x.1 x.2.1 x.2.2.1⟩
noncomputable def steepleref06_At.body : Code := Try.f29.body.getD .skip
def steepleref06_At.calls (k : Nat) : List (Nat × Sig E.toTys) := [(19, steepleref01_Of.sig k), (39, steepleref06_All.sig k), (58, steepleref02_Product.sig k), (57, steepleref02_Add.sig k)]
def steepleref06_At.cuts : List (Cut E (RT E.toTys [(false, .st 4)])) := [⟨true, 6, ⟨cat (ds 1) (cat [.one (.val (.slice (.st 4)))] (cat (ds 3) (cat [.one (.ptr 0 0), .one (.ptr 1 0), .one (.ptr 2 0), .one (.ptr 3 0), .one (.val (.int .i64))] (ds 30)))), [.var [.val (.int .u64), .val (.int .u64)], .var [.val (.int .u64), .val (.int .u64)], .var [.val (.int .u64), .val (.int .u64)], .var [.val (.int .u64), .val (.int .u64)]], false⟩, fun k x => steepleref06_At.l6 k x.1.1 x.1.2.1 x.2.1.1 x.2.1.2.1 x.2.2.1.1 x.2.2.1.2.1 x.2.2.2.1.1 x.2.2.2.1.2.1 x.2.2.2.2.1.1 x.2.2.2.2.1.2.1⟩]
theorem steepleref06_At.ok (k : Nat) : Okf (XR E) Try.prog 29 (steepleref06_At.sig k) := ⟨fn_ok (C := fun k => tab.ctx fun f => lk f (steepleref06_At.calls k)) (fun k => tie _) k (fun j hj => calls_ok (kc (steepleref01_Of.ok j) (kc (steepleref06_All.ok j) (kc (steepleref02_Product.ok j) (kc (steepleref02_Add.ok j) (kn)))))) 400 Try.func29 (body := steepleref06_At.body) (res := [.cell 6 38]) rfl (by kernel_rfl) steepleref06_At.cuts (kc ⟨by kernel_rfl, rfl, fun _ => rfl, fun _ _ => by kernel_rfl⟩ (kn)) (fun x => by kernel_rfl), _, Try.func29, by kernel_rfl, by kernel_rfl⟩
/-! ### steeple/novel.Degree: function 30 -/
def novel_Degree.l2 : Nat → List S27 → Int → Option Int
  | 0, _, _ => none
  | k + 1, x0, x1 => if x1 ≥ 0 then (if 0 ≤ x1 then (if x1 < (x0.length : Int) then (if (rd27 x0 x1).f0 = 0 ∧ (rd27 x0 x1).f1 = 0 then novel_Degree.l2 k x0 (wrap64 (x1 - 1)) else some x1) else none) else none) else some (-1)
def novel_Degree.f (k : Nat) (a0 : List S27) : Option Int := novel_Degree.l2 k a0 (wrap64 ((a0.length : Int) - 1))
def novel_Degree.sig (k : Nat) : Sig E.toTys := ⟨[.slice (.st 0)], [(false, .int .i64)], none, fun x => f k x.1⟩
noncomputable def novel_Degree.body : Code := Try.f30.body.getD .skip
def novel_Degree.calls (k : Nat) : List (Nat × Sig E.toTys) := []
def novel_Degree.cuts : List (Cut E (RT E.toTys [(false, .int .i64)])) := [⟨true, 2, ⟨cat [.one (.val (.slice (.st 0)))] (cat (ds 2) (cat [.one (.val (.int .i64))] (ds 14))), [], false⟩, fun k x => novel_Degree.l2 k x.1.1 x.1.2.1⟩]
theorem novel_Degree.ok (k : Nat) : Okf (XR E) Try.prog 30 (novel_Degree.sig k) := ⟨fn_ok (C := fun k => tab.ctx fun f => lk f (novel_Degree.calls k)) (fun k => tie _) k (fun j hj => calls_ok (kn)) 400 Try.func30 (body := novel_Degree.body) (res := [.tmp 2]) rfl (by kernel_rfl) novel_Degree.cuts (kc ⟨by kernel_rfl, rfl, fun _ => rfl, fun _ _ => by kernel_rfl⟩ (kn)) (fun x => by kernel_rfl), _, Try.func30, by kernel_rfl, by kernel_rfl⟩
/-! ### steeple/steepleref06.Degree: function 31 -/
def steepleref06_Degree.l4 : Nat → List S38 → Int → Int → Int → Int → Option Int
  | 0, _, _, _, _, _ => none
  | k + 1, x0, x1, x2, x3, x4 => if x2 < (x0.length : Int) then (if 0 ≤ x2 then (if x2 < (x0.length : Int) then (if (rd38 x0 x2).f0 = x3 ∧ (rd38 x0 x2).f1 = x4 then steepleref06_Degree.l4 k x0 x1 (wrap64 (x2 + 1)) x3 x4 else steepleref06_Degree.l4 k x0 x2 (wrap64 (x2 + 1)) x3 x4) else none) else none) else some x1
def steepleref06_Degree.f (k : Nat) (a0 : List S38) : Option Int := steepleref06_Degree.l4 k a0 (-1) 0 0 0
def steepleref06_Degree.sig (k : Nat) : Sig E.toTys := ⟨[.slice (.st 4)], [(false, .int .i64)], none, fun x => f k x.1⟩
noncomputable def steepleref06_Degree.body : Code := Try.f31.body.getD .skip
def steepleref06_Degree.calls (k : Nat) : List (Nat × Sig E.toTys) := []
def steepleref06_Degree.cuts : List (Cut E (RT E.toTys [(false, .int .i64)])) := [⟨true, 4, ⟨cat [.one (.val (.slice (.st 4)))] (cat (ds 2) (cat [.one (.val (.int .i64)), .one (.ptr 0 0), .one (.val (.int .i64))] (ds 14))), [.var [.val (.int .u64), .val (.int .u64)]], false⟩, fun k x => steepleref06_Degree.l4 k x.1.1 x.1.2.1 x.1.2.2.1 x.2.1.1 x.2.1.2.1⟩]
theorem steepleref06_Degree.ok (k : Nat) : Okf (XR E) Try.prog 31 (steepleref06_Degree.sig k) := ⟨fn_ok (C := fun k => tab.ctx fun f => lk f (steepleref06_Degree.calls k)) (fun k => tie _) k (fun j hj => calls_ok (kn)) 400 Try.func31 (body := steepleref06_Degree.body) (res := [.tmp 2]) rfl (by kernel_rfl) steepleref06_Degree.cuts (kc ⟨by kernel_rfl, rfl, fun _ => rfl, fun _ _ => by kernel_rfl⟩ (kn)) (fun x => by kernel_rfl), _, Try.func31, by kernel_rfl, by kernel_rfl⟩
end Go.Proofs.Ytjajiedfhpacpaa.B
namespace Go.Proofs.Ytjajiedfhpacpaa.B
open Go.Proofs.Ytjajiedfhpacpaa.V.B Go.RowKit
set_option linter.unusedVariables false
/-! ### steeple/steeplelaw06.NovelPowers: function 8 -/
mutual
def steeplelaw06_NovelPowers.j2 : Nat → Option Bool
  | 0 => none
  | k + 1 => (steeplelaw06_awake.f k).bind fun r0 => some r0
def steeplelaw06_NovelPowers.j6 : Nat → Int → List S27 → List S27 → Int → Int → Option Bool
  | 0, _, _, _, _, _ => none
  | k + 1, x0, x1, x2, x3, x4 => (steeplelaw01_Ref.f k x1).bind fun r1 => (steeplelaw01_Ref.f k x2).bind fun r2 => (novel_Times.f k x0 x1 x2).bind fun r3 => (steepleref06_Times.f k x0 r1 r2).bind fun r4 => (steeplelaw01_Same.f k r3 r4).bind fun r5 => if (!r5) = true then steeplelaw06_NovelPowers.j9 k else (novel_At.f k x0 x2 (⟨x3, x4⟩ : S27)).bind fun r6 => (steepleref06_At.f k x0 r2 (⟨x3, x4⟩ : S38)).bind fun r7 => if r6.f0 = r7.f0 ∧ r6.f1 = r7.f1 then ((novel_Degree.f k x1).bind fun r8 => (steepleref06_Degree.f k r1).bind fun r9 => if r8 = r9 then (if (r3.length : Int) > 0 then ((steeplelaw06_awake.f k).bind fun r10 => if r10 = true then ((novel_At.f k x0 r3 (⟨x3, x4⟩ : S27)).bind fun r11 => (novel_At.f k x0 x1 (⟨x3, x4⟩ : S27)).bind fun r12 => (novel_At.f k x0 x2 (⟨x3, x4⟩ : S27)).bind fun r13 => (tower_Mul.f k x0 r12 r13).bind fun r14 => some (decide (r11.f0 = r14.f0 ∧ r11.f1 = r14.f1))) else some false) else (steeplelaw06_awake.f k).bind fun r15 => some r15) else steeplelaw06_NovelPowers.j9 k) else steeplelaw06_NovelPowers.j9 k
def steeplelaw06_NovelPowers.j9 : Nat → Option Bool
  | 0 => none
  | k + 1 => some false
end
def steeplelaw06_NovelPowers.f (k : Nat) (a0 : Int) (a1 : List S27) (a2 : List S27) : Option Bool := if (a1.length : Int) > 30 then steeplelaw06_NovelPowers.j2 k else if (a2.length : Int) > 30 then steeplelaw06_NovelPowers.j2 k else if (a1.length : Int) > 0 then (if 0 < (a1.length : Int) then steeplelaw06_NovelPowers.j6 k a0 a1 a2 (rd27 a1 (0 : Int)).f0 (rd27 a1 (0 : Int)).f1 else none) else steeplelaw06_NovelPowers.j6 k a0 a1 a2 0 1
def steeplelaw06_NovelPowers.sig (k : Nat) : Sig E.toTys := ⟨[.int .i64, .slice (.st 0), .slice (.st 0)], [(false, .bool)], none, fun x => f k x.1 x.2.1 x.2.2.1⟩
noncomputable def steeplelaw06_NovelPowers.body : Code := Try.f8.body.getD .skip
def steeplelaw06_NovelPowers.calls (k : Nat) : List (Nat × Sig E.toTys) := [(25, steeplelaw06_awake.sig k), (15, steeplelaw01_Ref.sig k), (26, novel_Times.sig k), (27, steepleref06_Times.sig k), (17, steeplelaw01_Same.sig k), (28, novel_At.sig k), (29, steepleref06_At.sig k), (30, novel_Degree.sig k), (31, steepleref06_Degree.sig k), (21, tower_Mul.sig k)]
def steeplelaw06_NovelPowers.cuts : List (Cut E (RT E.toTys [(false, .bool)])) := [⟨false, 2, ⟨ds 82, [], false⟩, fun k x => steeplelaw06_NovelPowers.j2 k⟩,
  ⟨false, 6, ⟨cat [.one (.val (.int .i64)), .one (.val (.slice (.st 0))), .one (.val (.slice (.st 0)))] (cat (ds 4) (cat [.one (.ptr 0 0)] (ds 74))), [.var [.val (.int .u64), .val (.int .u64)]], false⟩, fun k x => steeplelaw06_NovelPowers.j6 k x.1.1 x.1.2.1 x.1.2.2.1 x.2.1.1 x.2.1.2.1⟩,
  ⟨false, 9, ⟨ds 82, [], false⟩, fun k x => steeplelaw06_NovelPowers.j9 k⟩]
theorem steeplelaw06_NovelPowers.ok (k : Nat) : Okf (XR E) Try.prog 8 (steeplelaw06_NovelPowers.sig k) := ⟨fn_ok (C := fun k => tab.ctx fun f => lk f (steeplelaw06_NovelPowers.calls k)) (fun k => tie _) k (fun j hj => calls_ok (kc (steeplelaw06_awake.ok j) (kc (steeplelaw01_Ref.ok j) (kc (novel_Times.ok j) (kc (steepleref06_Times.ok j) (kc (steeplelaw01_Same.ok j) (kc (novel_At.ok j) (kc (steepleref06_At.ok j) (kc (novel_Degree.ok j) (kc (steepleref06_Degree.ok j) (kc (tower_Mul.ok j) (kn)))))))))))) 400 Try.func8 (body := steeplelaw06_NovelPowers.body) (res := [.tmp 6]) rfl (by kernel_rfl) steeplelaw06_NovelPowers.cuts (kc ⟨by kernel_rfl, rfl, fun _ => rfl, fun _ _ => by kernel_rfl⟩ (kc ⟨by kernel_rfl, rfl, fun _ => rfl, fun _ _ => by kernel_rfl⟩ (kc ⟨by kernel_rfl, rfl, fun _ => rfl, fun _ _ => by kernel_rfl⟩ (kn)))) (fun x => by kernel_rfl), _, Try.func8, by kernel_rfl, by kernel_rfl⟩
/-! ### (steeple/steeplelaw06.Poly).made: function 32 -/
def steeplelaw06_Poly_made.j3 : Nat → Option (Option S80)
  | 0 => none
  | k + 1 => some none
def steeplelaw06_Poly_made.f (k : Nat) (a0 : S29) : Option (Option S80) := (steeplelaw05_Space_Made.f k a0.f0).bind fun r0 => (match r0 with | none => steeplelaw06_Poly_made.j3 k | some _ => if (a0.f0.f1.length : Int) > 5 then steeplelaw06_Poly_made.j3 k else if 0 ≤ IntKind.u64.wrap (a0.f0.f1.length : Int) then (if (a0.f1.length : Int) > shl .i64 1 (IntKind.u64.wrap (a0.f0.f1.length : Int)) then steeplelaw06_Poly_made.j3 k else (steeplelaw01_Ref.f k a0.f1).bind fun r1 => (steepleref06_All.f k a0.f0.f0 r1).bind fun r2 => if (!r2) = true then steeplelaw06_Poly_made.j3 k else (steepleref01_Of.f k a0.f0.f0 (⟨a0.f2.f0, a0.f2.f1⟩ : S38)).bind fun r3 => if (!r3) = true then steeplelaw06_Poly_made.j3 k else some r0) else none)
def steeplelaw06_Poly_made.sig (k : Nat) : Sig E.toTys := ⟨[.st 2], [(false, .ptr (.st 3))], none, fun x => f k x.1⟩
noncomputable def steeplelaw06_Poly_made.body : Code := Try.f32.body.getD .skip
def steeplelaw06_Poly_made.calls (k : Nat) : List (Nat × Sig E.toTys) := [(37, steeplelaw05_Space_Made.sig k), (15, steeplelaw01_Ref.sig k), (39, steepleref06_All.sig k), (19, steepleref01_Of.sig k)]
def steeplelaw06_Poly_made.cuts : List (Cut E (RT E.toTys [(false, .ptr (.st 3))])) := [⟨false, 3, ⟨ds 48, [], false⟩, fun k x => steeplelaw06_Poly_made.j3 k⟩]
theorem steeplelaw06_Poly_made.ok (k : Nat) : Okf (XR E) Try.prog 32 (steeplelaw06_Poly_made.sig k) := ⟨fn_ok (C := fun k => tab.ctx fun f => lk f (steeplelaw06_Poly_made.calls k)) (fun k => tie _) k (fun j hj => calls_ok (kc (steeplelaw05_Space_Made.ok j) (kc (steeplelaw01_Ref.ok j) (kc (steepleref06_All.ok j) (kc (steepleref01_Of.ok j) (kn)))))) 400 Try.func32 (body := steeplelaw06_Poly_made.body) (res := [.tmp 2]) rfl (by kernel_rfl) steeplelaw06_Poly_made.cuts (kc ⟨by kernel_rfl, rfl, fun _ => rfl, fun _ _ => by kernel_rfl⟩ (kn)) (fun x => by kernel_rfl), _, Try.func32, by kernel_rfl, by kernel_rfl⟩
/-! ### steeple/novel.Basis: function 33 -/
mutual
def novel_Basis.j2 : Nat → Int → Int → Option S27
  | 0, _, _ => none
  | k + 1, _, _ => some (⟨0, 0⟩ : S27)
def novel_Basis.l5 : Nat → Option S80 → Int → Int → Int → Int → Int → Int → Int → Int → Int → Option S27
  | 0, _, _, _, _, _, _, _, _, _, _ => none
  | k + 1, x0, x1, x2, x3, x4, x5, x6, x7, x8, x9 => if x3 < x2 then (if 0 ≤ x3 then (if bits .and .i64 (shr .i64 x1 x3) 1 = 1 then ((linpoly_Space_Level.f k x0).bind fun r5 => (linpoly_Space_Norm.f k x0 x3 (⟨x4, x5⟩ : S27)).bind fun r6 => (tower_Mul.f k r5 (⟨x8, x9⟩ : S27) r6).bind fun r7 => novel_Basis.l5 k x0 x1 x2 (wrap64 (x3 + 1)) x4 x5 x6 x7 r7.f0 r7.f1) else novel_Basis.l5 k x0 x1 x2 (wrap64 (x3 + 1)) x4 x5 x6 x7 x8 x9) else none) else some (⟨x8, x9⟩ : S27)
end
def novel_Basis.f (k : Nat) (a0 : Option S80) (a1 : Int) (a2 : S27) : Option S27 := (match a0 with | none => novel_Basis.j2 k 0 0 | some _ => if a1 < 0 then novel_Basis.j2 k 0 0 else (linpoly_Space_Dim.f k a0).bind fun r0 => if 0 ≤ r0 then (if a1 ≥ shl .i64 1 r0 then novel_Basis.j2 k 0 0 else (linpoly_Space_Level.f k a0).bind fun r1 => (octet_Of.f k r1 a2).bind fun r2 => if (!r2) = true then novel_Basis.j2 k 0 0 else (tower_One.f k).bind fun r3 => (linpoly_Space_Dim.f k a0).bind fun r4 => novel_Basis.l5 k a0 a1 r4 0 a2.f0 a2.f1 0 0 r3.f0 r3.f1) else none)
def novel_Basis.sig (k : Nat) : Sig E.toTys := ⟨[.ptr (.st 3), .int .i64, .st 0], [(false, .st 0)], none, fun x => f k x.1 x.2.1 x.2.2.1⟩
noncomputable def novel_Basis.body : Code := Try.f33.body.getD .skip
def novel_Basis.calls (k : Nat) : List (Nat × Sig E.toTys) := [(38, linpoly_Space_Dim.sig k), (46, linpoly_Space_Level.sig k), (50, octet_Of.sig k), (59, tower_One.sig k), (60, linpoly_Space_Norm.sig k), (21, tower_Mul.sig k)]
def novel_Basis.cuts : List (Cut E (RT E.toTys [(false, .st 0)])) := [⟨false, 2, ⟨cat (ds 6) (cat [.one (.ptr 0 0)] (ds 44)), [.var [.val (.int .u64), .val (.int .u64)]], false⟩, fun k x => novel_Basis.j2 k x.2.1.1 x.2.1.2.1⟩,
  ⟨true, 5, ⟨cat [.one (.val (.ptr (.st 3))), .one (.val (.int .i64))] (cat (ds 3) (cat [.one (.ptr 0 0), .one (.ptr 1 0), .one (.ptr 2 0)] (cat (ds 24) (cat [.one (.val (.int .i64)), .one (.val (.int .i64))] (ds 17))))), [.var [.val (.int .u64), .val (.int .u64)], .var [.val (.int .u64), .val (.int .u64)], .var [.val (.int .u64), .val (.int .u64)]], false⟩, fun k x => novel_Basis.l5 k x.1.1 x.1.2.1 x.1.2.2.1 x.1.2.2.2.1 x.2.1.1 x.2.1.2.1 x.2.2.1.1 x.2.2.1.2.1 x.2.2.2.1.1 x.2.2.2.1.2.1⟩]
theorem novel_Basis.ok (k : Nat) : Okf (XR E) Try.prog 33 (novel_Basis.sig k) := ⟨fn_ok (C := fun k => tab.ctx fun f => lk f (novel_Basis.calls k)) (fun k => tie _) k (fun j hj => calls_ok (kc (linpoly_Space_Dim.ok j) (kc (linpoly_Space_Level.ok j) (kc (octet_Of.ok j) (kc (tower_One.ok j) (kc (linpoly_Space_Norm.ok j) (kc (tower_Mul.ok j) (kn)))))))) 400 Try.func33 (body := novel_Basis.body) (res := [.cell 6 27]) rfl (by kernel_rfl) novel_Basis.cuts (kc ⟨by kernel_rfl, rfl, fun _ => rfl, fun _ _ => by kernel_rfl⟩ (kc ⟨by kernel_rfl, rfl, fun _ => rfl, fun _ _ => by kernel_rfl⟩ (kn))) (fun x => by kernel_rfl), _, Try.func33, by kernel_rfl, by kernel_rfl⟩
/-! ### steeple/tower.Sum: function 63 -/
def tower_Sum.l3 : Nat → List S27 → Int → Int → Int → Int → Int → Int → Option S27
  | 0, _, _, _, _, _, _, _ => none
  | k + 1, x0, x1, x2, x3, x4, x5, x6 => if x2 < x1 then (if 0 ≤ x2 then (if x2 < (x0.length : Int) then ((tower_Add.f k (⟨x5, x6⟩ : S27) (rd27 x0 x2)).bind fun r0 => tower_Sum.l3 k x0 x1 (wrap64 (x2 + 1)) x3 x4 r0.f0 r0.f1) else none) else none) else some (⟨x5, x6⟩ : S27)
def tower_Sum.f (k : Nat) (a0 : List S27) : Option S27 := tower_Sum.l3 k a0 (a0.length : Int) 0 0 0 0 0
def tower_Sum.sig (k : Nat) : Sig E.toTys := ⟨[.slice (.st 0)], [(false, .st 0)], none, fun x => f k x.1⟩
noncomputable def tower_Sum.body : Code := Try.f63.body.getD .skip
def tower_Sum.calls (k : Nat) : List (Nat × Sig E.toTys) := [(20, tower_Add.sig k)]
def tower_Sum.cuts : List (Cut E (RT E.toTys [(false, .st 0)])) := [⟨true, 3, ⟨cat (ds 2) (cat [.one (.ptr 0 0), .one (.ptr 1 0)] (cat (ds 2) (cat [.one (.val (.slice (.st 0))), .one (.val (.int .i64)), .one (.val (.int .i64))] (ds 8)))), [.var [.val (.int .u64), .val (.int .u64)], .var [.val (.int .u64), .val (.int .u64)]], false⟩, fun k x => tower_Sum.l3 k x.1.1 x.1.2.1 x.1.2.2.1 x.2.1.1 x.2.1.2.1 x.2.2.1.1 x.2.2.1.2.1⟩]
theorem tower_Sum.ok (k : Nat) : Okf (XR E) Try.prog 63 (tower_Sum.sig k) := ⟨fn_ok (C := fun k => tab.ctx fun f => lk f (tower_Sum.calls k)) (fun k => tie _) k (fun j hj => calls_ok (kc (tower_Add.ok j) (kn))) 400 Try.func63 (body := tower_Sum.body) (res := [.cell 2 27]) rfl (by kernel_rfl) tower_Sum.cuts (kc ⟨by kernel_rfl, rfl, fun _ => rfl, fun _ _ => by kernel_rfl⟩ (kn)) (fun x => by kernel_rfl), _, Try.func63, by kernel_rfl, by kernel_rfl⟩
/-! ### steeple/novel.Eval: function 35 -/
mutual
def novel_Eval.l5 : Nat → Option S80 → Int → Int → Int → Int → Int → List S27 → Option S27
  | 0, _, _, _, _, _, _, _ => none
  | k + 1, x0, x1, x2, x3, x4, x5, x6 => if (x6.length : Int) > 1 then ((linpoly_Space_Norm.f k x0 x1 (⟨x2, x3⟩ : S27)).bind fun r4 => novel_Eval.l10 k x0 x1 0 x2 x3 x4 x5 x6 r4.f0 r4.f1 []) else (tower_Sum.f k x6).bind fun r5 => some r5
def novel_Eval.l10 : Nat → Option S80 → Int → Int → Int → Int → Int → Int → List S27 → Int → Int → List S27 → Option S27
  | 0, _, _, _, _, _, _, _, _, _, _, _ => none
  | k + 1, x0, x1, x2, x3, x4, x5, x6, x7, x8, x9, x10 => if x2 < (x7.length : Int) then (if 0 ≤ x2 then (if x2 < (x7.length : Int) then (if wrap64 (x2 + 1) < (x7.length : Int) then ((linpoly_Space_Level.f k x0).bind fun r6 => if 0 ≤ wrap64 (x2 + 1) then (if wrap64 (x2 + 1) < (x7.length : Int) then ((tower_Mul.f k r6 (⟨x8, x9⟩ : S27) (rd27 x7 (wrap64 (x2 + 1)))).bind fun r7 => (tower_Add.f k (rd27 x7 x2) r7).bind fun r8 => if x10.length + [r8].length ≤ 140737488355328 / 16 then novel_Eval.l10 k x0 x1 (wrap64 (x2 + 2)) x3 x4 x5 x6 x7 x8 x9 (x10 ++ [r8]) else none) else none) else none) else if x10.length + [rd27 x7 x2].length ≤ 140737488355328 / 16 then novel_Eval.l10 k x0 x1 (wrap64 (x2 + 2)) x3 x4 x5 x6 x7 x8 x9 (x10 ++ [rd27 x7 x2]) else none) else none) else none) else novel_Eval.l5 k x0 (wrap64 (x1 + 1)) x3 x4 x5 x6 x10
end
def novel_Eval.f (k : Nat) (a0 : Option S80) (a1 : List S27) (a2 : S27) : Option S27 := (novel_ask.f k a0 a1).bind fun r0 => if r0 = 0 then ((linpoly_Space_Level.f k a0).bind fun r1 => (octet_Of.f k r1 a2).bind fun r2 => if (!r2) = true then some (⟨0, 0⟩ : S27) else (slices_Clone44.f k a1).bind fun r3 => novel_Eval.l5 k a0 0 a2.f0 a2.f1 0 0 r3) else some (⟨0, 0⟩ : S27)
def novel_Eval.sig (k : Nat) : Sig E.toTys := ⟨[.ptr (.st 3), .slice (.st 0), .st 0], [(false, .st 0)], none, fun x => f k x.1 x.2.1 x.2.2.1⟩
noncomputable def novel_Eval.body : Code := Try.f35.body.getD .skip
def novel_Eval.calls (k : Nat) : List (Nat × Sig E.toTys) := [(62, novel_ask.sig k), (46, linpoly_Space_Level.sig k), (50, octet_Of.sig k), (44, slices_Clone44.sig k), (60, linpoly_Space_Norm.sig k), (63, tower_Sum.sig k), (21, tower_Mul.sig k), (20, tower_Add.sig k)]
def novel_Eval.cuts : List (Cut E (RT E.toTys [(false, .st 0)])) := [⟨true, 5, ⟨cat [.one (.val (.ptr (.st 3)))] (cat (ds 4) (cat [.one (.ptr 0 0), .one (.ptr 1 0), .one (.ref 2), .one (.val (.int .i64))] (ds 60))), [.var [.val (.int .u64), .val (.int .u64)], .var [.val (.int .u64), .val (.int .u64)], .arr (.st 0)], false⟩, fun k x => novel_Eval.l5 k x.1.1 x.1.2.1 x.2.1.1 x.2.1.2.1 x.2.2.1.1 x.2.2.1.2.1 x.2.2.2.1⟩,
  ⟨true, 10, ⟨cat [.one (.val (.ptr (.st 3)))] (cat (ds 4) (cat [.one (.ptr 0 0), .one (.ptr 1 0), .one (.ref 2), .one (.val (.int .i64)), .one (.ptr 3 0), .one (.ref 4), .one (.val (.int .i64))] (ds 57))), [.var [.val (.int .u64), .val (.int .u64)], .var [.val (.int .u64), .val (.int .u64)], .arr (.st 0), .var [.val (.int .u64), .val (.int .u64)], .arr (.st 0)], false⟩, fun k x => novel_Eval.l10 k x.1.1 x.1.2.1 x.1.2.2.1 x.2.1.1 x.2.1.2.1 x.2.2.1.1 x.2.2.1.2.1 x.2.2.2.1 x.2.2.2.2.1.1 x.2.2.2.2.1.2.1 x.2.2.2.2.2.1⟩]
theorem novel_Eval.ok (k : Nat) : Okf (XR E) Try.prog 35 (novel_Eval.sig k) := ⟨fn_ok (C := fun k => tab.ctx fun f => lk f (novel_Eval.calls k)) (fun k => tie _) k (fun j hj => calls_ok (kc (novel_ask.ok j) (kc (linpoly_Space_Level.ok j) (kc (octet_Of.ok j) (kc (slices_Clone44.ok j) (kc (linpoly_Space_Norm.ok j) (kc (tower_Sum.ok j) (kc (tower_Mul.ok j) (kc (tower_Add.ok j) (kn)))))))))) 400 Try.func35 (body := novel_Eval.body) (res := [.cell 6 27]) rfl (by kernel_rfl) novel_Eval.cuts (kc ⟨by kernel_rfl, rfl, fun _ => rfl, fun _ _ => by kernel_rfl⟩ (kc ⟨by kernel_rfl, rfl, fun _ => rfl, fun _ _ => by kernel_rfl⟩ (kn))) (fun x => by kernel_rfl), _, Try.func35, by kernel_rfl, by kernel_rfl⟩
/-! ### steeple/steeplelaw06.NovelValues: function 9 -/
def steeplelaw06_NovelValues.j8 : Nat → Int → Int → Option Bool
  | 0, _, _ => none
  | k + 1, x0, x1 => (steeplelaw06_awake.f k).bind fun r9 => if r9 = true then some (decide (x0 = 0 ∧ x1 = 0)) else some false
def steeplelaw06_NovelValues.f (k : Nat) (a0 : S29) (a1 : Int) : Option Bool := (steeplelaw06_Poly_made.f k a0).bind fun r0 => (match r0 with | none => (steeplelaw06_awake.f k).bind fun r1 => some r1 | some _ => (steeplelaw01_Ref.f k a0.f0.f1).bind fun r2 => (novel_Basis.f k r0 a1 a0.f2).bind fun r3 => if a1 < 0 then steeplelaw06_NovelValues.j8 k r3.f0 r3.f1 else if 0 ≤ IntKind.u64.wrap (r2.length : Int) then (if a1 ≥ shl .i64 1 (IntKind.u64.wrap (r2.length : Int)) then steeplelaw06_NovelValues.j8 k r3.f0 r3.f1 else (steeplelaw06_awake.f k).bind fun r4 => if r4 = true then ((steepleref06_Basis.f k a0.f0.f0 r2 a1 (⟨a0.f2.f0, a0.f2.f1⟩ : S38)).bind fun r5 => if r3.f0 = r5.f0 ∧ r3.f1 = r5.f1 then ((novel_Eval.f k r0 a0.f1 a0.f2).bind fun r6 => (steeplelaw01_Ref.f k a0.f1).bind fun r7 => (steepleref06_Eval.f k a0.f0.f0 r2 r7 (⟨a0.f2.f0, a0.f2.f1⟩ : S38)).bind fun r8 => some (decide (r6.f0 = r8.f0 ∧ r6.f1 = r8.f1))) else some false) else some false) else none)
def steeplelaw06_NovelValues.sig (k : Nat) : Sig E.toTys := ⟨[.st 2, .int .i64], [(false, .bool)], none, fun x => f k x.1 x.2.1⟩
noncomputable def steeplelaw06_NovelValues.body : Code := Try.f9.body.getD .skip
def steeplelaw06_NovelValues.calls (k : Nat) : List (Nat × Sig E.toTys) := [(32, steeplelaw06_Poly_made.sig k), (25, steeplelaw06_awake.sig k), (15, steeplelaw01_Ref.sig k), (33, novel_Basis.sig k), (34, steepleref06_Basis.sig k), (35, novel_Eval.sig k), (36, steepleref06_Eval.sig k)]
def steeplelaw06_NovelValues.cuts : List (Cut E (RT E.toTys [(false, .bool)])) := [⟨false, 8, ⟨cat (ds 8) (cat [.one (.ptr 0 0)] (ds 62)), [.var [.val (.int .u64), .val (.int .u64)]], false⟩, fun k x => steeplelaw06_NovelValues.j8 k x.2.1.1 x.2.1.2.1⟩]
theorem steeplelaw06_NovelValues.ok (k : Nat) : Okf (XR E) Try.prog 9 (steeplelaw06_NovelValues.sig k) := ⟨fn_ok (C := fun k => tab.ctx fun f => lk f (steeplelaw06_NovelValues.calls k)) (fun k => tie _) k (fun j hj => calls_ok (kc (steeplelaw06_Poly_made.ok j) (kc (steeplelaw06_awake.ok j) (kc (steeplelaw01_Ref.ok j) (kc (novel_Basis.ok j) (kc (steepleref06_Basis.ok j) (kc (novel_Eval.ok j) (kc (steepleref06_Eval.ok j) (kn))))))))) 400 Try.func9 (body := steeplelaw06_NovelValues.body) (res := [.tmp 4]) rfl (by kernel_rfl) steeplelaw06_NovelValues.cuts (kc ⟨by kernel_rfl, rfl, fun _ => rfl, fun _ _ => by kernel_rfl⟩ (kn)) (fun x => by kernel_rfl), _, Try.func9, by kernel_rfl, by kernel_rfl⟩
/-! ### steeple/novel.from: function 66 -/
mutual
def novel_from.l9 : Nat → Option S80 → Int → Int → List S27 → List S27 → Int → Int → List S27 → Option ((List S27) × (List S27))
  | 0, _, _, _, _, _, _, _, _ => none
  | k + 1, x0, x1, x2, x3, x4, x5, x6, x7 => if x2 ≥ x1 then ((linpoly_Space_Level.f k x0).bind fun r4 => if 0 ≤ x2 then (if x2 < (x3.length : Int) then ((tower_Mul.f k r4 (rd27 x3 x2) (⟨x5, x6⟩ : S27)).bind fun r5 => if 0 ≤ wrap64 (x2 - x1) then (if wrap64 (x2 - x1) < (x7.length : Int) then novel_from.l13 k x0 x1 x2 (x4.length : Int) 0 x3 x4 x5 x6 (x7.set (Int.toNat (wrap64 (x2 - x1))) r5) else none) else none) else none) else none) else if x1 = x1 then (if 0 ≤ x1 then (if x1 ≤ (x3.length : Int) then none else none) else none) else none
def novel_from.l13 : Nat → Option S80 → Int → Int → Int → Int → List S27 → List S27 → Int → Int → List S27 → Option ((List S27) × (List S27))
  | 0, _, _, _, _, _, _, _, _, _, _ => none
  | k + 1, x0, x1, x2, x3, x4, x5, x6, x7, x8, x9 => if x4 < x3 then (if 0 ≤ x4 then (if x4 < (x6.length : Int) then (if 0 ≤ wrap64 ((wrap64 (x2 - x1)) + x4) then (if wrap64 ((wrap64 (x2 - x1)) + x4) < (x5.length : Int) then ((linpoly_Space_Level.f k x0).bind fun r6 => if 0 ≤ wrap64 (x2 - x1) then (if wrap64 (x2 - x1) < (x9.length : Int) then ((tower_Mul.f k r6 (rd27 x9 (wrap64 (x2 - x1))) (rd27 x6 x4)).bind fun r7 => (tower_Add.f k (rd27 x5 (wrap64 ((wrap64 (x2 - x1)) + x4))) r7).bind fun r8 => if 0 ≤ wrap64 ((wrap64 (x2 - x1)) + x4) then (if wrap64 ((wrap64 (x2 - x1)) + x4) < (x5.length : Int) then novel_from.l13 k x0 x1 x2 x3 (wrap64 (x4 + 1)) (x5.set (Int.toNat (wrap64 ((wrap64 (x2 - x1)) + x4))) r8) x6 x7 x8 x9 else none) else none) else none) else none) else none) else none) else none) else none) else novel_from.l9 k x0 x1 (wrap64 (x2 - 1)) x5 x6 x7 x8 x9
def novel_from.f : Nat → Option S80 → List S27 → Option ((List S27) × (List S27))
  | 0, _, _ => none
  | k + 1, a0, a1 => if (a1.length : Int) ≤ 1 then none else (novel_wide.f k (a1.length : Int)).bind fun r0 => if 0 ≤ wrap64 (r0 - 1) then ((novel_norm.f k a0 (wrap64 (r0 - 1))).bind fun r1 => (linpoly_Space_Level.f k a0).bind fun r2 => if 0 ≤ shl .i64 1 (wrap64 (r0 - 1)) then (if shl .i64 1 (wrap64 (r0 - 1)) < (r1.length : Int) then ((tower_Inv.f k r2 (rd27 r1 (shl .i64 1 (wrap64 (r0 - 1))))).bind fun r3 => if 0 ≤ wrap64 ((a1.length : Int) - (shl .i64 1 (wrap64 (r0 - 1)))) then (if wrap64 ((a1.length : Int) - (shl .i64 1 (wrap64 (r0 - 1)))) ≤ 140737488355328 / ((16 : Nat) : Int) then novel_from.l9 k a0 (shl .i64 1 (wrap64 (r0 - 1))) (wrap64 ((a1.length : Int) - 1)) a1 r1 r3.f0 r3.f1 (List.replicate (Int.toNat (wrap64 ((a1.length : Int) - (shl .i64 1 (wrap64 (r0 - 1)))))) z27) else none) else none) else none) else none) else none
end
def novel_from.sig (k : Nat) : Sig E.toTys := ⟨[.ptr (.st 3), .slice (.st 0)], [(true, .slice (.st 0)), (false, .slice (.st 0))], some 1, fun x => f k x.1 x.2.1⟩
noncomputable def novel_from.body : Code := Try.f66.body.getD .skip
def novel_from.calls (k : Nat) : List (Nat × Sig E.toTys) := [(82, novel_wide.sig k), (84, novel_norm.sig k), (46, linpoly_Space_Level.sig k), (81, tower_Inv.sig k), (21, tower_Mul.sig k), (66, novel_from.sig k), (20, tower_Add.sig k)]
def novel_from.cuts : List (Cut E (RT E.toTys [(true, .slice (.st 0)), (false, .slice (.st 0))])) := [⟨true, 9, ⟨cat [.one (.val (.ptr (.st 3))), .one (.ref 0)] (cat (ds 4) (cat [.one (.val (.int .i64)), .one (.ref 1), .one (.ptr 2 0), .one (.ref 3), .one (.val (.int .i64))] (ds 92))), [.arr (.st 0), .arr (.st 0), .var [.val (.int .u64), .val (.int .u64)], .arr (.st 0)], true⟩, fun k x => novel_from.l9 k x.1.1 x.1.2.1 x.1.2.2.1 x.2.1 x.2.2.1 x.2.2.2.1.1 x.2.2.2.1.2.1 x.2.2.2.2.1⟩,
  ⟨true, 13, ⟨cat [.one (.val (.ptr (.st 3))), .one (.ref 0)] (cat (ds 4) (cat [.one (.val (.int .i64)), .one (.ref 1), .one (.ptr 2 0), .one (.ref 3), .one (.val (.int .i64))] (cat (ds 48) (cat [.one (.ref 1), .one (.val (.int .i64)), .one (.val (.int .i64))] (ds 41))))), [.arr (.st 0), .arr (.st 0), .var [.val (.int .u64), .val (.int .u64)], .arr (.st 0)], true⟩, fun k x => novel_from.l13 k x.1.1 x.1.2.1 x.1.2.2.1 x.1.2.2.2.1 x.1.2.2.2.2.1 x.2.1 x.2.2.1 x.2.2.2.1.1 x.2.2.2.1.2.1 x.2.2.2.2.1⟩]
theorem novel_from.oks (k : Nat) : Okf (XR E) Try.prog 66 (novel_from.sig k) := by
  induction k using Nat.strongRecOn with
  | ind k ih =>
  cases k with
  | zero => exact ⟨ok0 fun _ => rfl, _, Try.func66, by kernel_rfl, by kernel_rfl⟩
  | succ k => exact ⟨fn_okIO (C := fun k => tab.ctx fun f => lk f (novel_from.calls k)) (fun k => tie _) k (fun j hj => calls_ok (kc (novel_wide.ok j) (kc (novel_norm.ok j) (kc (linpoly_Space_Level.ok j) (kc (tower_Inv.ok j) (kc (tower_Mul.ok j) (kc (ih j (Nat.lt_succ_of_le hj)) (kc (tower_Add.ok j) (kn))))))))) 400 1 Try.func66 (body := novel_from.body) (res := [.tmp 4]) rfl (by kernel_rfl) novel_from.cuts (kc ⟨by kernel_rfl, rfl, fun _ => rfl, fun _ _ => by kernel_rfl⟩ (kc ⟨by kernel_rfl, rfl, fun _ => rfl, fun _ _ => by kernel_rfl⟩ (kn))) (fun x => by kernel_rfl), _, Try.func66, by kernel_rfl, by kernel_rfl⟩
theorem novel_from.ok (k : Nat) : Okf (XR E) Try.prog 66 (novel_from.sig k) := (novel_from.oks k)
/-! ### steeple/novel.From: function 41 -/
def novel_From.f (k : Nat) (a0 : Option S80) (a1 : List S27) : Option ((List S27) × Int) := (novel_ask.f k a0 a1).bind fun r0 => if r0 = 0 then ((slices_Clone44.f k a1).bind fun r1 => none) else some ([], r0)
def novel_From.sig (k : Nat) : Sig E.toTys := ⟨[.ptr (.st 3), .slice (.st 0)], [(true, .slice (.st 0)), (false, .int .i64)], none, fun x => f k x.1 x.2.1⟩
noncomputable def novel_From.body : Code := Try.f41.body.getD .skip
def novel_From.calls (k : Nat) : List (Nat × Sig E.toTys) := [(62, novel_ask.sig k), (44, slices_Clone44.sig k), (66, novel_from.sig k)]
def novel_From.cuts : List (Cut E (RT E.toTys [(true, .slice (.st 0)), (false, .int .i64)])) := []
theorem novel_From.ok (k : Nat) : Okf (XR E) Try.prog 41 (novel_From.sig k) := ⟨fn_ok (C := fun k => tab.ctx fun f => lk f (novel_From.calls k)) (fun k => tie _) k (fun j hj => calls_ok (kc (novel_ask.ok j) (kc (slices_Clone44.ok j) (kc (novel_from.ok j) (kn))))) 400 Try.func41 (body := novel_From.body) (res := [.tmp 4, .tmp 5]) rfl (by kernel_rfl) novel_From.cuts (kn) (fun x => by kernel_rfl), _, Try.func41, by kernel_rfl, by kernel_rfl⟩
/-! ### steeple/steeplelaw06.NovelErrs: function 10 -/
mutual
def steeplelaw06_NovelErrs.j3 : Nat → Option Bool
  | 0 => none
  | k + 1 => (steeplelaw06_awake.f k).bind fun r5 => some r5
def steeplelaw06_NovelErrs.j9 : Nat → Option S80 → Int → Int → List S27 → List S27 → Int → Int → Option Bool
  | 0, _, _, _, _, _, _, _ => none
  | k + 1, x0, x1, _, _, x4, x5, x6 => (novel_Powers.f k x0 x4).bind fun r6 => (novel_From.f k x0 x4).bind fun r7 => (novel_Powers.f k none x4).bind fun r8 => (novel_From.f k none x4).bind fun r9 => if r6.2 = x1 then (if r7.2 = x1 then (if r8.2 = 1 then (if r9.2 = 1 then (if x1 = 0 then ((steeplelaw06_awake.f k).bind fun r10 => if r10 = true then (if (r6.1.length : Int) = (x4.length : Int) then some (decide ((r7.1.length : Int) = (x4.length : Int))) else some false) else some false) else (steeplelaw06_awake.f k).bind fun r11 => if r11 = true then (if wrap64 ((r6.1.length : Int) + (r7.1.length : Int)) = 0 then ((novel_Eval.f k x0 x4 (⟨x5, x6⟩ : S27)).bind fun r12 => if r12.f0 = 0 ∧ r12.f1 = 0 then ((novel_Eval.f k none x4 (⟨x5, x6⟩ : S27)).bind fun r13 => if r13.f0 = 0 ∧ r13.f1 = 0 then ((novel_Basis.f k none 0 (⟨x5, x6⟩ : S27)).bind fun r14 => some (decide (r14.f0 = 0 ∧ r14.f1 = 0))) else some false) else some false) else some false) else some false) else steeplelaw06_NovelErrs.j14 k) else steeplelaw06_NovelErrs.j14 k) else steeplelaw06_NovelErrs.j14 k) else steeplelaw06_NovelErrs.j14 k
def steeplelaw06_NovelErrs.j14 : Nat → Option Bool
  | 0 => none
  | k + 1 => some false
end
def steeplelaw06_NovelErrs.f (k : Nat) (a0 : S29) : Option Bool := (steeplelaw05_Space_Made.f k a0.f0).bind fun r0 => if (a0.f1.length : Int) > 20 then steeplelaw06_NovelErrs.j3 k else (match r0 with | none => steeplelaw06_NovelErrs.j3 k | some _ => (linpoly_Space_Dim.f k r0).bind fun r1 => if r1 > 3 then steeplelaw06_NovelErrs.j3 k else (linpoly_Space_Dim.f k r0).bind fun r2 => if 0 ≤ IntKind.u64.wrap r2 then (if (a0.f1.length : Int) > shl .i64 1 (IntKind.u64.wrap r2) then steeplelaw06_NovelErrs.j9 k r0 6 a0.f0.f0 a0.f0.f1 a0.f1 a0.f2.f0 a0.f2.f1 else (steeplelaw01_Ref.f k a0.f1).bind fun r3 => (steepleref06_All.f k a0.f0.f0 r3).bind fun r4 => if (!r4) = true then steeplelaw06_NovelErrs.j9 k r0 5 a0.f0.f0 a0.f0.f1 a0.f1 a0.f2.f0 a0.f2.f1 else steeplelaw06_NovelErrs.j9 k r0 0 a0.f0.f0 a0.f0.f1 a0.f1 a0.f2.f0 a0.f2.f1) else none)
def steeplelaw06_NovelErrs.sig (k : Nat) : Sig E.toTys := ⟨[.st 2], [(false, .bool)], none, fun x => f k x.1⟩
noncomputable def steeplelaw06_NovelErrs.body : Code := Try.f10.body.getD .skip
def steeplelaw06_NovelErrs.calls (k : Nat) : List (Nat × Sig E.toTys) := [(37, steeplelaw05_Space_Made.sig k), (38, linpoly_Space_Dim.sig k), (15, steeplelaw01_Ref.sig k), (39, steepleref06_All.sig k), (25, steeplelaw06_awake.sig k), (40, novel_Powers.sig k), (41, novel_From.sig k), (35, novel_Eval.sig k), (33, novel_Basis.sig k)]
def steeplelaw06_NovelErrs.cuts : List (Cut E (RT E.toTys [(false, .bool)])) := [⟨false, 3, ⟨ds 142, [], false⟩, fun k x => steeplelaw06_NovelErrs.j3 k⟩,
  ⟨false, 9, ⟨cat (ds 1) (cat [.one (.ptr 0 0)] (cat (ds 1) (cat [.one (.val (.ptr (.st 3))), .one (.val (.int .i64))] (ds 137)))), [.var [.val (.int .i64), .val (.slice (.st 0)), .val (.slice (.st 0)), .val (.int .u64), .val (.int .u64)]], false⟩, fun k x => steeplelaw06_NovelErrs.j9 k x.1.1 x.1.2.1 x.2.1.1 x.2.1.2.1 x.2.1.2.2.1 x.2.1.2.2.2.1 x.2.1.2.2.2.2.1⟩,
  ⟨false, 14, ⟨ds 142, [], false⟩, fun k x => steeplelaw06_NovelErrs.j14 k⟩]
theorem steeplelaw06_NovelErrs.ok (k : Nat) : Okf (XR E) Try.prog 10 (steeplelaw06_NovelErrs.sig k) := ⟨fn_ok (C := fun k => tab.ctx fun f => lk f (steeplelaw06_NovelErrs.calls k)) (fun k => tie _) k (fun j hj => calls_ok (kc (steeplelaw05_Space_Made.ok j) (kc (linpoly_Space_Dim.ok j) (kc (steeplelaw01_Ref.ok j) (kc (steepleref06_All.ok j) (kc (steeplelaw06_awake.ok j) (kc (novel_Powers.ok j) (kc (novel_From.ok j) (kc (novel_Eval.ok j) (kc (novel_Basis.ok j) (kn))))))))))) 400 Try.func10 (body := steeplelaw06_NovelErrs.body) (res := [.tmp 2]) rfl (by kernel_rfl) steeplelaw06_NovelErrs.cuts (kc ⟨by kernel_rfl, rfl, fun _ => rfl, fun _ _ => by kernel_rfl⟩ (kc ⟨by kernel_rfl, rfl, fun _ => rfl, fun _ _ => by kernel_rfl⟩ (kc ⟨by kernel_rfl, rfl, fun _ => rfl, fun _ _ => by kernel_rfl⟩ (kn)))) (fun x => by kernel_rfl), _, Try.func10, by kernel_rfl, by kernel_rfl⟩
/-! ### steeple/steeplelaw06.NovelBack: function 11 -/
def steeplelaw06_NovelBack.j10 : Nat → Option Bool
  | 0 => none
  | k + 1 => some false
def steeplelaw06_NovelBack.f (k : Nat) (a0 : S29) : Option Bool := (steeplelaw06_Poly_made.f k a0).bind fun r0 => (match r0 with | none => (steeplelaw06_awake.f k).bind fun r1 => some r1 | some _ => (novel_Powers.f k r0 a0.f1).bind fun r2 => (novel_From.f k r0 r2.1).bind fun r3 => (novel_From.f k r0 a0.f1).bind fun r4 => (novel_Powers.f k r0 r4.1).bind fun r5 => (steeplelaw01_Ref.f k a0.f1).bind fun r6 => if r2.2 = 0 then (if r3.2 = 0 then (if r4.2 = 0 then (if r5.2 = 0 then ((steeplelaw01_Same.f k r3.1 r6).bind fun r7 => if (!r7) = true then steeplelaw06_NovelBack.j10 k else (steeplelaw01_Same.f k r5.1 r6).bind fun r8 => if (!r8) = true then steeplelaw06_NovelBack.j10 k else (steeplelaw06_awake.f k).bind fun r9 => if r9 = true then ((novel_At.f k a0.f0.f0 r2.1 a0.f2).bind fun r10 => (novel_Eval.f k r0 a0.f1 a0.f2).bind fun r11 => if r10.f0 = r11.f0 ∧ r10.f1 = r11.f1 then ((novel_Degree.f k r2.1).bind fun r12 => (steepleref06_Degree.f k r6).bind fun r13 => if r12 = r13 then ((novel_Eval.f k r0 r4.1 a0.f2).bind fun r14 => (novel_At.f k a0.f0.f0 a0.f1 a0.f2).bind fun r15 => some (decide (r14.f0 = r15.f0 ∧ r14.f1 = r15.f1))) else some false) else some false) else some false) else steeplelaw06_NovelBack.j10 k) else steeplelaw06_NovelBack.j10 k) else steeplelaw06_NovelBack.j10 k) else steeplelaw06_NovelBack.j10 k)
def steeplelaw06_NovelBack.sig (k : Nat) : Sig E.toTys := ⟨[.st 2], [(false, .bool)], none, fun x => f k x.1⟩
noncomputable def steeplelaw06_NovelBack.body : Code := Try.f11.body.getD .skip
def steeplelaw06_NovelBack.calls (k : Nat) : List (Nat × Sig E.toTys) := [(32, steeplelaw06_Poly_made.sig k), (25, steeplelaw06_awake.sig k), (40, novel_Powers.sig k), (41, novel_From.sig k), (15, steeplelaw01_Ref.sig k), (17, steeplelaw01_Same.sig k), (28, novel_At.sig k), (35, novel_Eval.sig k), (30, novel_Degree.sig k), (31, steepleref06_Degree.sig k)]
def steeplelaw06_NovelBack.cuts : List (Cut E (RT E.toTys [(false, .bool)])) := [⟨false, 10, ⟨ds 113, [], false⟩, fun k x => steeplelaw06_NovelBack.j10 k⟩]
theorem steeplelaw06_NovelBack.ok (k : Nat) : Okf (XR E) Try.prog 11 (steeplelaw06_NovelBack.sig k) := ⟨fn_ok (C := fun k => tab.ctx fun f => lk f (steeplelaw06_NovelBack.calls k)) (fun k => tie _) k (fun j hj => calls_ok (kc (steeplelaw06_Poly_made.ok j) (kc (steeplelaw06_awake.ok j) (kc (novel_Powers.ok j) (kc (novel_From.ok j) (kc (steeplelaw01_Ref.ok j) (kc (steeplelaw01_Same.ok j) (kc (novel_At.ok j) (kc (novel_Eval.ok j) (kc (novel_Degree.ok j) (kc (steepleref06_Degree.ok j) (kn)))))))))))) 400 Try.func11 (body := steeplelaw06_NovelBack.body) (res := [.tmp 2]) rfl (by kernel_rfl) steeplelaw06_NovelBack.cuts (kc ⟨by kernel_rfl, rfl, fun _ => rfl, fun _ _ => by kernel_rfl⟩ (kn)) (fun x => by kernel_rfl), _, Try.func11, by kernel_rfl, by kernel_rfl⟩
end Go.Proofs.Ytjajiedfhpacpaa.B

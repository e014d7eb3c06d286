/- Own text: merged by pack2.py. -/
import Derived.Test.YtfmjodlcjaflfaaProg
import Derived.Test.YtfmjodlcjaflfaaMBa
import Derived.Test.YtfmjodlcjaflfaaMBb
import Derived.Test.YtfmjodlcjaflfaaMBc
set_option linter.unusedSimpArgs false
set_option linter.unusedVariables false
namespace Go.Proofs.Ytfmjodlcjaflfaa.B
open Go.Proofs.Ytfmjodlcjaflfaa.V.B Go.RowKit
set_option linter.unusedVariables false
structure S34 where
  f0 : Int
  f1 : Int
structure S25 where
  f0 : List Bool
  f1 : List S34
  f2 : List S34
structure S77 where
  f0 : Int
  f1 : List S34
  f2 : List S34
  f3 : List S34
structure S105 where
  f0 : S34
  f1 : List Bool
structure S39 where
  f0 : Int
  f1 : Int
structure S44 where
  f0 : List S34
  f1 : List S34
def Es : Nat → Type
  | 0 => S34
  | 1 => S25
  | 2 => S77
  | 3 => S105
  | 4 => S39
  | 5 => S44
  | _ + 6 => Unit
def Efs : Nat → List Ty
  | 0 => [.int .u64, .int .u64]
  | 1 => [.slice .bool, .slice (.st 0), .slice (.st 0)]
  | 2 => [.int .i64, .slice (.st 0), .slice (.st 0), .slice (.st 0)]
  | 3 => [.int .u64, .int .u64, .slice .bool]
  | 4 => [.int .u64, .int .u64]
  | 5 => [.slice (.st 0), .slice (.st 0)]
  | _ + 6 => []
def z34 : S34 := ⟨0, 0⟩
def z25 : S25 := ⟨[], [], []⟩
def z77 : S77 := ⟨0, [], [], []⟩
def z105 : S105 := ⟨z34, []⟩
def z39 : S39 := ⟨0, 0⟩
def z44 : S44 := ⟨[], []⟩
def E : Env where
  S := Es
  fs := Efs
  z := fun n => match n with | 0 => z34 | 1 => z25 | 2 => z77 | 3 => z105 | 4 => z39 | 5 => z44 | _ + 6 => ()
  to := fun n => match n with | 0 => fun (x : S34) => (x.f0, x.f1, ()) | 1 => fun (x : S25) => (x.f0, x.f1, x.f2, ()) | 2 => fun (x : S77) => (x.f0, x.f1, x.f2, x.f3, ()) | 3 => fun (x : S105) => (x.f0.f0, x.f0.f1, x.f1, ()) | 4 => fun (x : S39) => (x.f0, x.f1, ()) | 5 => fun (x : S44) => (x.f0, x.f1, ()) | _ + 6 => fun _ => ()
  of := fun n => match n with | 0 => fun x => (⟨x.1, x.2.1⟩ : S34) | 1 => fun x => (⟨x.1, x.2.1, x.2.2.1⟩ : S25) | 2 => fun x => (⟨x.1, x.2.1, x.2.2.1, x.2.2.2.1⟩ : S77) | 3 => fun x => (⟨(⟨x.1, x.2.1⟩ : S34), x.2.2.1⟩ : S105) | 4 => fun x => (⟨x.1, x.2.1⟩ : S39) | 5 => fun x => (⟨x.1, x.2.1⟩ : S44) | _ + 6 => fun _ => ()
  of_to := fun n => match n with | 0 => fun _ => rfl | 1 => fun _ => rfl | 2 => fun _ => rfl | 3 => fun _ => rfl | 4 => fun _ => rfl | 5 => fun _ => rfl | _ + 6 => fun _ => rfl
  to_of := fun n => match n with | 0 => fun _ => rfl | 1 => fun _ => rfl | 2 => fun _ => rfl | 3 => fun _ => rfl | 4 => fun _ => rfl | 5 => fun _ => rfl | _ + 6 => fun _ => rfl
theorem zl_ok : ∀ n, E.to n (E.z n) = zl E (E.fs n) := fun n => match n with | 0 => rfl | 1 => rfl | 2 => rfl | 3 => rfl | 4 => rfl | 5 => rfl | _ + 6 => rfl
def rd34 (xs : List S34) (i : Int) : S34 := xs.getD i.toNat z34
def rd25 (xs : List S25) (i : Int) : S25 := xs.getD i.toNat z25
def rd77 (xs : List S77) (i : Int) : S77 := xs.getD i.toNat z77
def rd105 (xs : List S105) (i : Int) : S105 := xs.getD i.toNat z105
def rd39 (xs : List S39) (i : Int) : S39 := xs.getD i.toNat z39
def rd44 (xs : List S44) (i : Int) : S44 := xs.getD i.toNat z44
def rdI (xs : List Int) (i : Int) : Int := xs.getD i.toNat 0
def rdB (xs : List Bool) (i : Int) : Bool := xs.getD i.toNat false
def rdL {α : Type} (xs : List (List α)) (i : Int) : List α := xs.getD i.toNat []
def by256_793 : ByteArray := ⟨#[0, 1, 2, 2, 3, 3, 3, 3, 4, 4, 4, 4, 4, 4, 4, 4, 5, 5, 5, 5, 5, 5, 5, 5, 5, 5, 5, 5, 5, 5, 5, 5, 6, 6, 6, 6, 6, 6, 6, 6, 6, 6, 6, 6, 6, 6, 6, 6, 6, 6, 6, 6, 6, 6, 6, 6, 6, 6, 6, 6, 6, 6, 6, 6, 7, 7, 7, 7, 7, 7, 7, 7, 7, 7, 7, 7, 7, 7, 7, 7, 7, 7, 7, 7, 7, 7, 7, 7, 7, 7, 7, 7, 7, 7, 7, 7, 7, 7, 7, 7, 7, 7, 7, 7, 7, 7, 7, 7, 7, 7, 7, 7, 7, 7, 7, 7, 7, 7, 7, 7, 7, 7, 7, 7, 7, 7, 7, 7, 8, 8, 8, 8, 8, 8, 8, 8, 8, 8, 8, 8, 8, 8, 8, 8, 8, 8, 8, 8, 8, 8, 8, 8, 8, 8, 8, 8, 8, 8, 8, 8, 8, 8, 8, 8, 8, 8, 8, 8, 8, 8, 8, 8, 8, 8, 8, 8, 8, 8, 8, 8, 8, 8, 8, 8, 8, 8, 8, 8, 8, 8, 8, 8, 8, 8, 8, 8, 8, 8, 8, 8, 8, 8, 8, 8, 8, 8, 8, 8, 8, 8, 8, 8, 8, 8, 8, 8, 8, 8, 8, 8, 8, 8, 8, 8, 8, 8, 8, 8, 8, 8, 8, 8, 8, 8, 8, 8, 8, 8, 8, 8, 8, 8, 8, 8, 8, 8, 8, 8, 8, 8, 8, 8, 8, 8, 8, 8]⟩
def tab : Tab := ⟨[(3, .int .i64), (4, .bool), (5, .int .u8), (22, .slice .bool), (23, .slice (.st 0)), (25, .st 1), (27, .int .i64), (32, .int .u64), (34, .st 0), (39, .st 4), (40, .slice (.st 4)), (44, .st 5), (53, .ptr (.st 2)), (70, .slice (.st 0)), (77, .st 2), (85, .int .u64), (96, .slice (.slice (.st 0))), (103, .slice (.st 3)), (105, .st 3), (111, .slice (.slice (.st 0))), (122, .int .i64)], [(25, 0, 0, 22), (25, 2, 2, 23), (34, 0, 0, 32), (34, 1, 1, 32), (39, 0, 0, 32), (39, 1, 1, 32), (44, 0, 0, 23), (44, 1, 1, 23), (77, 0, 0, 3), (77, 1, 1, 23), (77, 2, 2, 23), (77, 3, 3, 23), (105, 0, 0, 34), (105, 1, 2, 22)], [(22, 1), (23, 16), (40, 16), (70, 16), (96, 24), (103, 40), (111, 24)], [(34, 2)], [9]⟩
theorem tab_ok : tab.chk E Try.prog = true := by kernel_rfl
theorem tie (calls : Nat → Option (Sig E.toTys)) : Tie (XR E) Try.prog (tab.ctx calls) := tie_of zl_ok tab_ok calls
end Go.Proofs.Ytfmjodlcjaflfaa.B
namespace Go.Proofs.Ytfmjodlcjaflfaa.B
open Go.Proofs.Ytfmjodlcjaflfaa.V.B Go.RowKit
set_option linter.unusedVariables false
/-! ### steeple/octet.Wide: function 24 -/
def octet_Wide.f (k : Nat) (a0 : Int) : Option Int := if a0 < 0 then some 0 else if a0 > 7 then some 0 else if a0 ≤ 3 then some 1 else if 0 ≤ wrap64 (a0 - 3) then some (shl .i64 1 (wrap64 (a0 - 3))) else none
def octet_Wide.sig (k : Nat) : Sig E.toTys := ⟨[.int .i64], [(false, .int .i64)], none, fun x => f k x.1⟩
noncomputable def octet_Wide.body : Code := Try.f24.body.getD .skip
def octet_Wide.calls (k : Nat) : List (Nat × Sig E.toTys) := []
def octet_Wide.cuts : List (Cut E (RT E.toTys [(false, .int .i64)])) := []
theorem octet_Wide.ok (k : Nat) : Okf (XR E) Try.prog 24 (octet_Wide.sig k) := ⟨fn_ok (C := fun k => tab.ctx fun f => lk f (octet_Wide.calls k)) (fun k => tie _) k (fun j hj => calls_ok (kn)) 400 Try.func24 (body := octet_Wide.body) (res := [.tmp 2]) rfl (by kernel_rfl) octet_Wide.cuts (kn) (fun x => by kernel_rfl), _, Try.func24, by kernel_rfl, by kernel_rfl⟩
/-! ### steeple/tower.Bit: function 19 -/
mutual
def tower_Bit.j3 : Nat → Int → Int → Int → Option S34
  | 0, _, _, _ => none
  | k + 1, x0, x1, x2 => if x0 ≥ 64 then (if x0 < 128 then (if 0 ≤ wrap64 (x0 - 64) then some (⟨shl .u64 1 (wrap64 (x0 - 64)), 0⟩ : S34) else none) else tower_Bit.j5 k x1 x2) else tower_Bit.j5 k x1 x2
def tower_Bit.j5 : Nat → Int → Int → Option S34
  | 0, _, _ => none
  | k + 1, _, _ => some (⟨0, 0⟩ : S34)
end
def tower_Bit.f (k : Nat) (a0 : Int) : Option S34 := if a0 ≥ 0 then (if a0 < 64 then (if 0 ≤ a0 then some (⟨0, shl .u64 1 a0⟩ : S34) else none) else tower_Bit.j3 k a0 0 0) else tower_Bit.j3 k a0 0 0
def tower_Bit.sig (k : Nat) : Sig E.toTys := ⟨[.int .i64], [(false, .st 0)], none, fun x => f k x.1⟩
noncomputable def tower_Bit.body : Code := Try.f19.body.getD .skip
def tower_Bit.calls (k : Nat) : List (Nat × Sig E.toTys) := []
def tower_Bit.cuts : List (Cut E (RT E.toTys [(false, .st 0)])) := [⟨false, 3, ⟨cat [.one (.val (.int .i64))] (cat (ds 1) (cat [.one (.ptr 0 0)] (ds 22))), [.var [.val (.int .u64), .val (.int .u64)]], false⟩, fun k x => tower_Bit.j3 k x.1.1 x.2.1.1 x.2.1.2.1⟩,
  ⟨false, 5, ⟨cat (ds 2) (cat [.one (.ptr 0 0)] (ds 22)), [.var [.val (.int .u64), .val (.int .u64)]], false⟩, fun k x => tower_Bit.j5 k x.2.1.1 x.2.1.2.1⟩]
theorem tower_Bit.ok (k : Nat) : Okf (XR E) Try.prog 19 (tower_Bit.sig k) := ⟨fn_ok (C := fun k => tab.ctx fun f => lk f (tower_Bit.calls k)) (fun k => tie _) k (fun j hj => calls_ok (kn)) 400 Try.func19 (body := tower_Bit.body) (res := [.cell 2 34]) rfl (by kernel_rfl) tower_Bit.cuts (kc ⟨by kernel_rfl, rfl, fun _ => rfl, fun _ _ => by kernel_rfl⟩ (kc ⟨by kernel_rfl, rfl, fun _ => rfl, fun _ _ => by kernel_rfl⟩ (kn))) (fun x => by kernel_rfl), _, Try.func19, by kernel_rfl, by kernel_rfl⟩
/-! ### steeple/octet.Of: function 28 -/
def octet_Of.f (k : Nat) (a0 : Int) (a1 : S34) : Option Bool := if a0 < 0 then some false else if a0 > 7 then some false else if a0 = 7 then some true else if a0 = 6 then some (decide (a1.f0 = 0)) else if a1.f0 = 0 then (if 0 ≤ a0 then (if 0 ≤ shl .u64 1 a0 then some (decide (shr .u64 a1.f1 (shl .u64 1 a0) = 0)) else none) else none) else some false
def octet_Of.sig (k : Nat) : Sig E.toTys := ⟨[.int .i64, .st 0], [(false, .bool)], none, fun x => f k x.1 x.2.1⟩
noncomputable def octet_Of.body : Code := Try.f28.body.getD .skip
def octet_Of.calls (k : Nat) : List (Nat × Sig E.toTys) := []
def octet_Of.cuts : List (Cut E (RT E.toTys [(false, .bool)])) := []
theorem octet_Of.ok (k : Nat) : Okf (XR E) Try.prog 28 (octet_Of.sig k) := ⟨fn_ok (C := fun k => tab.ctx fun f => lk f (octet_Of.calls k)) (fun k => tie _) k (fun j hj => calls_ok (kn)) 400 Try.func28 (body := octet_Of.body) (res := [.tmp 4]) rfl (by kernel_rfl) octet_Of.cuts (kn) (fun x => by kernel_rfl), _, Try.func28, by kernel_rfl, by kernel_rfl⟩
/-! ### steeple/linpoly.New$1: function 64 -/
def linpoly_New_1.f (k : Nat) (a0 : S34) (a1 : Option Int) : Option Bool := (match a1 with | none => none | some r0 => (octet_Of.f k r0 a0).bind fun r1 => some (!r1))
def linpoly_New_1.sig (k : Nat) : Sig E.toTys := ⟨[.st 0, .ptr (.int .i64)], [(false, .bool)], none, fun x => f k x.1 x.2.1⟩
noncomputable def linpoly_New_1.body : Code := Try.f64.body.getD .skip
def linpoly_New_1.calls (k : Nat) : List (Nat × Sig E.toTys) := [(28, octet_Of.sig k)]
def linpoly_New_1.cuts : List (Cut E (RT E.toTys [(false, .bool)])) := []
theorem linpoly_New_1.ok (k : Nat) : Okf (XR E) Try.prog 64 (linpoly_New_1.sig k) := ⟨fn_ok (C := fun k => tab.ctx fun f => lk f (linpoly_New_1.calls k)) (fun k => tie _) k (fun j hj => calls_ok (kc (octet_Of.ok j) (kn))) 400 Try.func64 (body := linpoly_New_1.body) (res := [.tmp 3]) rfl (by kernel_rfl) linpoly_New_1.cuts (kn) (fun x => by kernel_rfl), _, Try.func64, by kernel_rfl, by kernel_rfl⟩
/-! ### slices.IndexFunc: function 77 -/
def slices_IndexFunc77_c64.l2 : Nat → List S34 → Int → Int → Int → Option Int
  | 0, _, _, _, _ => none
  | k + 1, x0, x1, x2, x3 => if x3 < x2 then (if 0 ≤ x3 then (if x3 < (x0.length : Int) then ((linpoly_New_1.f k (rd34 x0 x3) (some x1)).bind fun r0 => if r0 = true then some x3 else slices_IndexFunc77_c64.l2 k x0 x1 x2 (wrap64 (x3 + 1))) else none) else none) else some (-1)
def slices_IndexFunc77_c64.f (k : Nat) (a0 : List S34) (a1 : Int) : Option Int := slices_IndexFunc77_c64.l2 k a0 a1 (a0.length : Int) 0
def slices_IndexFunc77_c64.sig (k : Nat) : Sig E.toTys := ⟨[.slice (.st 0), .ext 64 (.int .i64)], [(false, .int .i64)], none, fun x => f k x.1 x.2.1⟩
noncomputable def slices_IndexFunc77_c64.body : Code := Try.f77.body.getD .skip
def slices_IndexFunc77_c64.calls (k : Nat) : List (Nat × Sig E.toTys) := [(64, linpoly_New_1.sig k)]
def slices_IndexFunc77_c64.cuts : List (Cut E (RT E.toTys [(false, .int .i64)])) := [⟨true, 2, ⟨cat [.one (.val (.slice (.st 0))), .one (.val (.ext 64 (.int .i64)))] (cat (ds 5) (cat [.one (.val (.int .i64)), .one (.val (.int .i64))] (ds 10))), [], false⟩, fun k x => slices_IndexFunc77_c64.l2 k x.1.1 x.1.2.1 x.1.2.2.1 x.1.2.2.2.1⟩]
theorem slices_IndexFunc77_c64.ok (k : Nat) : Okf (XR E) Try.prog 77 (slices_IndexFunc77_c64.sig k) := ⟨fn_ok (C := fun k => tab.ctx fun f => lk f (slices_IndexFunc77_c64.calls k)) (fun k => tie _) k (fun j hj => calls_ok (kc (linpoly_New_1.ok j) (kn))) 400 Try.func77 (body := slices_IndexFunc77_c64.body) (res := [.tmp 4]) rfl (by kernel_rfl) slices_IndexFunc77_c64.cuts (kc ⟨by kernel_rfl, rfl, fun _ => rfl, fun _ _ => by kernel_rfl⟩ (kn)) (fun x => by kernel_rfl), _, Try.func77, by kernel_rfl, by kernel_rfl⟩
/-! ### slices.ContainsFunc: function 52 -/
def slices_ContainsFunc52_c64.f (k : Nat) (a0 : List S34) (a1 : Int) : Option Bool := (slices_IndexFunc77_c64.f k a0 a1).bind fun r0 => some (decide (r0 ≥ 0))
def slices_ContainsFunc52_c64.sig (k : Nat) : Sig E.toTys := ⟨[.slice (.st 0), .ext 64 (.int .i64)], [(false, .bool)], none, fun x => f k x.1 x.2.1⟩
noncomputable def slices_ContainsFunc52_c64.body : Code := Try.f52.body.getD .skip
def slices_ContainsFunc52_c64.calls (k : Nat) : List (Nat × Sig E.toTys) := [(77, slices_IndexFunc77_c64.sig k)]
def slices_ContainsFunc52_c64.cuts : List (Cut E (RT E.toTys [(false, .bool)])) := []
theorem slices_ContainsFunc52_c64.ok (k : Nat) : Okf (XR E) Try.prog 52 (slices_ContainsFunc52_c64.sig k) := ⟨fn_ok (C := fun k => tab.ctx fun f => lk f (slices_ContainsFunc52_c64.calls k)) (fun k => tie _) k (fun j hj => calls_ok (kc (slices_IndexFunc77_c64.ok j) (kn))) 400 Try.func52 (body := slices_ContainsFunc52_c64.body) (res := [.tmp 4]) rfl (by kernel_rfl) slices_ContainsFunc52_c64.cuts (kn) (fun x => by kernel_rfl), _, Try.func52, by kernel_rfl, by kernel_rfl⟩
/-! ### math/bits.Len64: function 76 -/
mutual
def math_bits_Len64.j7 : Nat → Int → Int → Option Int
  | 0, _, _ => none
  | k + 1, x0, x1 => if x0 ≥ 256 then math_bits_Len64.j10 k (shr .u64 x0 8) (wrap64 (x1 + 8)) else math_bits_Len64.j10 k x0 x1
def math_bits_Len64.j10 : Nat → Int → Int → Option Int
  | 0, _, _ => none
  | k + 1, x0, x1 => if 0 ≤ IntKind.u8.wrap x0 then (if IntKind.u8.wrap x0 < (ByteArray.size by256_793 : Int) then some (wrap64 (x1 + (wrap64 (bt by256_793 (IntKind.u8.wrap x0))))) else none) else none
end
def math_bits_Len64.f (k : Nat) (a0 : Int) : Option Int := if a0 ≥ 4294967296 then (if shr .u64 a0 32 ≥ 65536 then math_bits_Len64.j7 k (shr .u64 (shr .u64 a0 32) 16) (wrap64 ((32 : Int) + 16)) else math_bits_Len64.j7 k (shr .u64 a0 32) 32) else if a0 ≥ 65536 then math_bits_Len64.j7 k (shr .u64 a0 16) (wrap64 ((0 : Int) + 16)) else math_bits_Len64.j7 k a0 0
def math_bits_Len64.sig (k : Nat) : Sig E.toTys := ⟨[.int .u64], [(false, .int .i64)], none, fun x => f k x.1⟩
noncomputable def math_bits_Len64.body : Code := Try.f76.body.getD .skip
def math_bits_Len64.calls (k : Nat) : List (Nat × Sig E.toTys) := []
def math_bits_Len64.cuts : List (Cut E (RT E.toTys [(false, .int .i64)])) := [⟨false, 7, ⟨cat [.one (.val (.int .u64))] (cat (ds 1) (cat [.one (.val (.int .i64))] (ds 22))), [], false⟩, fun k x => math_bits_Len64.j7 k x.1.1 x.1.2.1⟩,
  ⟨false, 10, ⟨cat [.one (.val (.int .u64))] (cat (ds 1) (cat [.one (.val (.int .i64))] (ds 22))), [], false⟩, fun k x => math_bits_Len64.j10 k x.1.1 x.1.2.1⟩]
theorem math_bits_Len64.ok (k : Nat) : Okf (XR E) Try.prog 76 (math_bits_Len64.sig k) := ⟨fn_ok (C := fun k => tab.ctx fun f => lk f (math_bits_Len64.calls k)) (fun k => tie _) k (fun j hj => calls_ok (kn)) 400 Try.func76 (body := math_bits_Len64.body) (res := [.tmp 2]) rfl (by kernel_rfl) math_bits_Len64.cuts (kc ⟨by kernel_rfl, rfl, fun _ => rfl, fun _ _ => by kernel_rfl⟩ (kc ⟨by kernel_rfl, rfl, fun _ => rfl, fun _ _ => by kernel_rfl⟩ (kn))) (fun x => by kernel_rfl), _, Try.func76, by kernel_rfl, by kernel_rfl⟩
/-! ### steeple/span.lead: function 50 -/
def span_lead.f (k : Nat) (a0 : S34) : Option Int := if a0.f0 = 0 then ((math_bits_Len64.f k a0.f1).bind fun r0 => some (wrap64 (r0 - 1))) else (math_bits_Len64.f k a0.f0).bind fun r1 => some (wrap64 (63 + r1))
def span_lead.sig (k : Nat) : Sig E.toTys := ⟨[.st 0], [(false, .int .i64)], none, fun x => f k x.1⟩
noncomputable def span_lead.body : Code := Try.f50.body.getD .skip
def span_lead.calls (k : Nat) : List (Nat × Sig E.toTys) := [(76, math_bits_Len64.sig k)]
def span_lead.cuts : List (Cut E (RT E.toTys [(false, .int .i64)])) := []
theorem span_lead.ok (k : Nat) : Okf (XR E) Try.prog 50 (span_lead.sig k) := ⟨fn_ok (C := fun k => tab.ctx fun f => lk f (span_lead.calls k)) (fun k => tie _) k (fun j hj => calls_ok (kc (math_bits_Len64.ok j) (kn))) 400 Try.func50 (body := span_lead.body) (res := [.tmp 2]) rfl (by kernel_rfl) span_lead.cuts (kn) (fun x => by kernel_rfl), _, Try.func50, by kernel_rfl, by kernel_rfl⟩
/-! ### steeple/span.has: function 72 -/
def span_has.f (k : Nat) (a0 : S34) (a1 : Int) : Option Bool := (tower_Bit.f k a1).bind fun r0 => some (!decide (bits .or .u64 (bits .and .u64 a0.f1 r0.f1) (bits .and .u64 a0.f0 r0.f0) = 0))
def span_has.sig (k : Nat) : Sig E.toTys := ⟨[.st 0, .int .i64], [(false, .bool)], none, fun x => f k x.1 x.2.1⟩
noncomputable def span_has.body : Code := Try.f72.body.getD .skip
def span_has.calls (k : Nat) : List (Nat × Sig E.toTys) := [(19, tower_Bit.sig k)]
def span_has.cuts : List (Cut E (RT E.toTys [(false, .bool)])) := []
theorem span_has.ok (k : Nat) : Okf (XR E) Try.prog 72 (span_has.sig k) := ⟨fn_ok (C := fun k => tab.ctx fun f => lk f (span_has.calls k)) (fun k => tie _) k (fun j hj => calls_ok (kc (tower_Bit.ok j) (kn))) 400 Try.func72 (body := span_has.body) (res := [.tmp 4]) rfl (by kernel_rfl) span_has.cuts (kn) (fun x => by kernel_rfl), _, Try.func72, by kernel_rfl, by kernel_rfl⟩
/-! ### steeple/tower.Add: function 18 -/
def tower_Add.f (k : Nat) (a0 : S34) (a1 : S34) : Option S34 := some (⟨bits .xor .u64 a0.f0 a1.f0, bits .xor .u64 a0.f1 a1.f1⟩ : S34)
def tower_Add.sig (k : Nat) : Sig E.toTys := ⟨[.st 0, .st 0], [(false, .st 0)], none, fun x => f k x.1 x.2.1⟩
noncomputable def tower_Add.body : Code := Try.f18.body.getD .skip
def tower_Add.calls (k : Nat) : List (Nat × Sig E.toTys) := []
def tower_Add.cuts : List (Cut E (RT E.toTys [(false, .st 0)])) := []
theorem tower_Add.ok (k : Nat) : Okf (XR E) Try.prog 18 (tower_Add.sig k) := ⟨fn_ok (C := fun k => tab.ctx fun f => lk f (tower_Add.calls k)) (fun k => tie _) k (fun j hj => calls_ok (kn)) 400 Try.func18 (body := tower_Add.body) (res := [.cell 4 34]) rfl (by kernel_rfl) tower_Add.cuts (kn) (fun x => by kernel_rfl), _, Try.func18, by kernel_rfl, by kernel_rfl⟩
/-! ### steeple/span.less: function 88 -/
def span_less.l2 : Nat → List S34 → Int → Int → Int → Int → Int → Int → Option S34
  | 0, _, _, _, _, _, _, _ => none
  | k + 1, x0, x1, x2, x3, x4, x5, x6 => if x2 < x1 then (if 0 ≤ x2 then (if x2 < (x0.length : Int) then ((span_lead.f k (rd34 x0 x2)).bind fun r0 => (span_has.f k (⟨x3, x4⟩ : S34) r0).bind fun r1 => if r1 = true then ((tower_Add.f k (⟨x3, x4⟩ : S34) (rd34 x0 x2)).bind fun r2 => span_less.l2 k x0 x1 (wrap64 (x2 + 1)) r2.f0 r2.f1 x5 x6) else span_less.l2 k x0 x1 (wrap64 (x2 + 1)) x3 x4 x5 x6) else none) else none) else some (⟨x3, x4⟩ : S34)
def span_less.f (k : Nat) (a0 : List S34) (a1 : S34) : Option S34 := span_less.l2 k a0 (a0.length : Int) 0 a1.f0 a1.f1 0 0
def span_less.sig (k : Nat) : Sig E.toTys := ⟨[.slice (.st 0), .st 0], [(false, .st 0)], none, fun x => f k x.1 x.2.1⟩
noncomputable def span_less.body : Code := Try.f88.body.getD .skip
def span_less.calls (k : Nat) : List (Nat × Sig E.toTys) := [(50, span_lead.sig k), (72, span_has.sig k), (18, tower_Add.sig k)]
def span_less.cuts : List (Cut E (RT E.toTys [(false, .st 0)])) := [⟨true, 2, ⟨cat (ds 3) (cat [.one (.ptr 0 0), .one (.ptr 1 0)] (cat (ds 2) (cat [.one (.val (.slice (.st 0))), .one (.val (.int .i64)), .one (.val (.int .i64))] (ds 12)))), [.var [.val (.int .u64), .val (.int .u64)], .var [.val (.int .u64), .val (.int .u64)]], false⟩, fun k x => span_less.l2 k x.1.1 x.1.2.1 x.1.2.2.1 x.2.1.1 x.2.1.2.1 x.2.2.1.1 x.2.2.1.2.1⟩]
theorem span_less.ok (k : Nat) : Okf (XR E) Try.prog 88 (span_less.sig k) := ⟨fn_ok (C := fun k => tab.ctx fun f => lk f (span_less.calls k)) (fun k => tie _) k (fun j hj => calls_ok (kc (span_lead.ok j) (kc (span_has.ok j) (kc (tower_Add.ok j) (kn))))) 400 Try.func88 (body := span_less.body) (res := [.cell 4 34]) rfl (by kernel_rfl) span_less.cuts (kc ⟨by kernel_rfl, rfl, fun _ => rfl, fun _ _ => by kernel_rfl⟩ (kn)) (fun x => by kernel_rfl), _, Try.func88, by kernel_rfl, by kernel_rfl⟩
/-! ### steeple/span.put$1: function 90 -/
def span_put_1.f (k : Nat) (a0 : S34) (a1 : S34) : Option Int := (span_lead.f k a1).bind fun r0 => (span_lead.f k a0).bind fun r1 => some (wrap64 (r0 - r1))
def span_put_1.sig (k : Nat) : Sig E.toTys := ⟨[.st 0, .st 0], [(false, .int .i64)], none, fun x => f k x.1 x.2.1⟩
noncomputable def span_put_1.body : Code := Try.f90.body.getD .skip
def span_put_1.calls (k : Nat) : List (Nat × Sig E.toTys) := [(50, span_lead.sig k)]
def span_put_1.cuts : List (Cut E (RT E.toTys [(false, .int .i64)])) := []
theorem span_put_1.ok (k : Nat) : Okf (XR E) Try.prog 90 (span_put_1.sig k) := ⟨fn_ok (C := fun k => tab.ctx fun f => lk f (span_put_1.calls k)) (fun k => tie _) k (fun j hj => calls_ok (kc (span_lead.ok j) (kn))) 400 Try.func90 (body := span_put_1.body) (res := [.tmp 4]) rfl (by kernel_rfl) span_put_1.cuts (kn) (fun x => by kernel_rfl), _, Try.func90, by kernel_rfl, by kernel_rfl⟩
/-! ### math/bits.Len: function 92 -/
def math_bits_Len.f (k : Nat) (a0 : Int) : Option Int := (math_bits_Len64.f k a0).bind fun r0 => some r0
def math_bits_Len.sig (k : Nat) : Sig E.toTys := ⟨[.int .u64], [(false, .int .i64)], none, fun x => f k x.1⟩
noncomputable def math_bits_Len.body : Code := Try.f92.body.getD .skip
def math_bits_Len.calls (k : Nat) : List (Nat × Sig E.toTys) := [(76, math_bits_Len64.sig k)]
def math_bits_Len.cuts : List (Cut E (RT E.toTys [(false, .int .i64)])) := []
theorem math_bits_Len.ok (k : Nat) : Okf (XR E) Try.prog 92 (math_bits_Len.sig k) := ⟨fn_ok (C := fun k => tab.ctx fun f => lk f (math_bits_Len.calls k)) (fun k => tie _) k (fun j hj => calls_ok (kc (math_bits_Len64.ok j) (kn))) 400 Try.func92 (body := math_bits_Len.body) (res := [.tmp 2]) rfl (by kernel_rfl) math_bits_Len.cuts (kn) (fun x => by kernel_rfl), _, Try.func92, by kernel_rfl, by kernel_rfl⟩
/-! ### slices.insertionSortCmpFunc: function 93 -/
mutual
def slices_insertionSortCmpFunc93_c90.l1 : Nat → Int → Int → Unit → Int → List S34 → Option (List S34)
  | 0, _, _, _, _, _ => none
  | k + 1, x0, x1, x2, x3, x4 => if x3 < x1 then slices_insertionSortCmpFunc93_c90.l4 k x0 x1 x2 x3 x3 x4 else some x4
def slices_insertionSortCmpFunc93_c90.l4 : Nat → Int → Int → Unit → Int → Int → List S34 → Option (List S34)
  | 0, _, _, _, _, _, _ => none
  | k + 1, x0, x1, x2, x3, x4, x5 => if x4 > x0 then (if 0 ≤ x4 then (if x4 < (x5.length : Int) then (if 0 ≤ wrap64 (x4 - 1) then (if wrap64 (x4 - 1) < (x5.length : Int) then ((span_put_1.f k (rd34 x5 x4) (rd34 x5 (wrap64 (x4 - 1)))).bind fun r0 => if r0 < 0 then (if 0 ≤ wrap64 (x4 - 1) then (if wrap64 (x4 - 1) < (x5.length : Int) then (if 0 ≤ x4 then (if x4 < (x5.length : Int) then (if 0 ≤ x4 then (if x4 < (x5.length : Int) then (if 0 ≤ wrap64 (x4 - 1) then (if wrap64 (x4 - 1) < ((x5.set (Int.toNat x4) (rd34 x5 (wrap64 (x4 - 1)))).length : Int) then slices_insertionSortCmpFunc93_c90.l4 k x0 x1 x2 x3 (wrap64 (x4 - 1)) ((x5.set (Int.toNat x4) (rd34 x5 (wrap64 (x4 - 1)))).set (Int.toNat (wrap64 (x4 - 1))) (rd34 x5 x4)) else none) else none) else none) else none) else none) else none) else none) else none) else slices_insertionSortCmpFunc93_c90.l1 k x0 x1 x2 (wrap64 (x3 + 1)) x5) else none) else none) else none) else none) else slices_insertionSortCmpFunc93_c90.l1 k x0 x1 x2 (wrap64 (x3 + 1)) x5
end
def slices_insertionSortCmpFunc93_c90.f (k : Nat) (a0 : List S34) (a1 : Int) (a2 : Int) (a3 : Unit) : Option (List S34) := slices_insertionSortCmpFunc93_c90.l1 k a1 a2 a3 (wrap64 (a1 + 1)) a0
def slices_insertionSortCmpFunc93_c90.sig (k : Nat) : Sig E.toTys := ⟨[.slice (.st 0), .int .i64, .int .i64, .fnv 90], [(true, .slice (.st 0))], some 0, fun x => f k x.1 x.2.1 x.2.2.1 x.2.2.2.1⟩
noncomputable def slices_insertionSortCmpFunc93_c90.body : Code := Try.f93.body.getD .skip
def slices_insertionSortCmpFunc93_c90.calls (k : Nat) : List (Nat × Sig E.toTys) := [(90, span_put_1.sig k)]
def slices_insertionSortCmpFunc93_c90.cuts : List (Cut E (RT E.toTys [(true, .slice (.st 0))])) := [⟨true, 1, ⟨cat [.one (.ref 0), .one (.val (.int .i64)), .one (.val (.int .i64)), .one (.val (.fnv 90))] (cat (ds 4) (cat [.one (.val (.int .i64))] (ds 44))), [.arr (.st 0)], true⟩, fun k x => slices_insertionSortCmpFunc93_c90.l1 k x.1.1 x.1.2.1 x.1.2.2.1 x.1.2.2.2.1 x.2.1⟩,
  ⟨true, 4, ⟨cat [.one (.ref 0), .one (.val (.int .i64)), .one (.val (.int .i64)), .one (.val (.fnv 90))] (cat (ds 4) (cat [.one (.val (.int .i64)), .one (.val (.int .i64))] (ds 43))), [.arr (.st 0)], true⟩, fun k x => slices_insertionSortCmpFunc93_c90.l4 k x.1.1 x.1.2.1 x.1.2.2.1 x.1.2.2.2.1 x.1.2.2.2.2.1 x.2.1⟩]
theorem slices_insertionSortCmpFunc93_c90.ok (k : Nat) : Okf (XR E) Try.prog 93 (slices_insertionSortCmpFunc93_c90.sig k) := ⟨fn_okIO (C := fun k => tab.ctx fun f => lk f (slices_insertionSortCmpFunc93_c90.calls k)) (fun k => tie _) k (fun j hj => calls_ok (kc (span_put_1.ok j) (kn))) 400 0 Try.func93 (body := slices_insertionSortCmpFunc93_c90.body) (res := []) rfl (by kernel_rfl) slices_insertionSortCmpFunc93_c90.cuts (kc ⟨by kernel_rfl, rfl, fun _ => rfl, fun _ _ => by kernel_rfl⟩ (kc ⟨by kernel_rfl, rfl, fun _ => rfl, fun _ _ => by kernel_rfl⟩ (kn))) (fun x => by kernel_rfl), _, Try.func93, by kernel_rfl, by kernel_rfl⟩
/-! ### slices.pdqsortCmpFunc: function 91 -/
def slices_pdqsortCmpFunc91_c90.l2 : Nat → Int → Int → Int → Unit → Bool → Bool → List S34 → Option (List S34)
  | 0, _, _, _, _, _, _, _ => none
  | k + 1, x0, x1, x2, x3, x4, _, x6 => if wrap64 (x1 - x0) ≤ 12 then ((slices_insertionSortCmpFunc93_c90.f k x6 x0 x1 x3).bind fun r0 => some r0) else if x2 = 0 then none else if (!x4) = true then none else none
def slices_pdqsortCmpFunc91_c90.f (k : Nat) (a0 : List S34) (a1 : Int) (a2 : Int) (a3 : Int) (a4 : Unit) : Option (List S34) := slices_pdqsortCmpFunc91_c90.l2 k a1 a2 a3 a4 true true a0
def slices_pdqsortCmpFunc91_c90.sig (k : Nat) : Sig E.toTys := ⟨[.slice (.st 0), .int .i64, .int .i64, .int .i64, .fnv 90], [(true, .slice (.st 0))], some 0, fun x => f k x.1 x.2.1 x.2.2.1 x.2.2.2.1 x.2.2.2.2.1⟩
noncomputable def slices_pdqsortCmpFunc91_c90.body : Code := Try.f91.body.getD .skip
def slices_pdqsortCmpFunc91_c90.calls (k : Nat) : List (Nat × Sig E.toTys) := [(93, slices_insertionSortCmpFunc93_c90.sig k)]
def slices_pdqsortCmpFunc91_c90.cuts : List (Cut E (RT E.toTys [(true, .slice (.st 0))])) := [⟨true, 2, ⟨cat [.one (.ref 0), .one (.val (.int .i64)), .one (.val (.int .i64)), .one (.val (.int .i64)), .one (.val (.fnv 90))] (cat (ds 5) (cat [.one (.val (.bool)), .one (.val (.bool))] (ds 136))), [.arr (.st 0)], true⟩, fun k x => slices_pdqsortCmpFunc91_c90.l2 k x.1.1 x.1.2.1 x.1.2.2.1 x.1.2.2.2.1 x.1.2.2.2.2.1 x.1.2.2.2.2.2.1 x.2.1⟩]
theorem slices_pdqsortCmpFunc91_c90.ok (k : Nat) : Okf (XR E) Try.prog 91 (slices_pdqsortCmpFunc91_c90.sig k) := ⟨fn_okIO (C := fun k => tab.ctx fun f => lk f (slices_pdqsortCmpFunc91_c90.calls k)) (fun k => tie _) k (fun j hj => calls_ok (kc (slices_insertionSortCmpFunc93_c90.ok j) (kn))) 400 0 Try.func91 (body := slices_pdqsortCmpFunc91_c90.body) (res := []) rfl (by kernel_rfl) slices_pdqsortCmpFunc91_c90.cuts (kc ⟨by kernel_rfl, rfl, fun _ => rfl, fun _ _ => by kernel_rfl⟩ (kn)) (fun x => by kernel_rfl), _, Try.func91, by kernel_rfl, by kernel_rfl⟩
/-! ### slices.SortFunc: function 89 -/
def slices_SortFunc89_c90.f (k : Nat) (a0 : List S34) (a1 : Unit) : Option (List S34) := (math_bits_Len.f k (IntKind.u64.wrap (a0.length : Int))).bind fun r0 => (slices_pdqsortCmpFunc91_c90.f k a0 0 (a0.length : Int) r0 a1).bind fun r1 => some r1
def slices_SortFunc89_c90.sig (k : Nat) : Sig E.toTys := ⟨[.slice (.st 0), .fnv 90], [(true, .slice (.st 0))], some 0, fun x => f k x.1 x.2.1⟩
noncomputable def slices_SortFunc89_c90.body : Code := Try.f89.body.getD .skip
def slices_SortFunc89_c90.calls (k : Nat) : List (Nat × Sig E.toTys) := [(92, math_bits_Len.sig k), (91, slices_pdqsortCmpFunc91_c90.sig k)]
def slices_SortFunc89_c90.cuts : List (Cut E (RT E.toTys [(true, .slice (.st 0))])) := []
theorem slices_SortFunc89_c90.ok (k : Nat) : Okf (XR E) Try.prog 89 (slices_SortFunc89_c90.sig k) := ⟨fn_okIO (C := fun k => tab.ctx fun f => lk f (slices_SortFunc89_c90.calls k)) (fun k => tie _) k (fun j hj => calls_ok (kc (math_bits_Len.ok j) (kc (slices_pdqsortCmpFunc91_c90.ok j) (kn)))) 400 0 Try.func89 (body := slices_SortFunc89_c90.body) (res := []) rfl (by kernel_rfl) slices_SortFunc89_c90.cuts (kn) (fun x => by kernel_rfl), _, Try.func89, by kernel_rfl, by kernel_rfl⟩
/-! ### steeple/span.put: function 87 -/
def span_put.l6 : Nat → List S34 → Int → Int → Int → Int → List S34 → Option (List S34)
  | 0, _, _, _, _, _, _ => none
  | k + 1, x0, x1, x2, x3, x4, x5 => if x2 < x1 then (if 0 ≤ x2 then (if x2 < (x0.length : Int) then ((span_lead.f k (⟨x3, x4⟩ : S34)).bind fun r1 => (span_has.f k (rd34 x0 x2) r1).bind fun r2 => if r2 = true then ((tower_Add.f k (rd34 x0 x2) (⟨x3, x4⟩ : S34)).bind fun r3 => if x5.length + [r3].length ≤ 140737488355328 / 16 then span_put.l6 k x0 x1 (wrap64 (x2 + 1)) x3 x4 (x5 ++ [r3]) else none) else if x5.length + [rd34 x0 x2].length ≤ 140737488355328 / 16 then span_put.l6 k x0 x1 (wrap64 (x2 + 1)) x3 x4 (x5 ++ [rd34 x0 x2]) else none) else none) else none) else if x5.length + [(⟨x3, x4⟩ : S34)].length ≤ 140737488355328 / 16 then ((slices_SortFunc89_c90.f k (x5 ++ [(⟨x3, x4⟩ : S34)]) ()).bind fun r4 => some r4) else none
def span_put.f (k : Nat) (a0 : List S34) (a1 : S34) : Option (List S34) := (span_less.f k a0 a1).bind fun r0 => if r0.f0 = 0 ∧ r0.f1 = 0 then some a0 else span_put.l6 k a0 (a0.length : Int) 0 r0.f0 r0.f1 []
def span_put.sig (k : Nat) : Sig E.toTys := ⟨[.slice (.st 0), .st 0], [(false, .slice (.st 0))], none, fun x => f k x.1 x.2.1⟩
noncomputable def span_put.body : Code := Try.f87.body.getD .skip
def span_put.calls (k : Nat) : List (Nat × Sig E.toTys) := [(88, span_less.sig k), (50, span_lead.sig k), (72, span_has.sig k), (18, tower_Add.sig k), (89, slices_SortFunc89_c90.sig k)]
def span_put.cuts : List (Cut E (RT E.toTys [(false, .slice (.st 0))])) := [⟨true, 6, ⟨cat (ds 3) (cat [.one (.ptr 0 0)] (cat (ds 1) (cat [.one (.ref 1)] (cat (ds 9) (cat [.one (.val (.slice (.st 0))), .one (.val (.int .i64)), .one (.val (.int .i64))] (ds 22)))))), [.var [.val (.int .u64), .val (.int .u64)], .arr (.st 0)], false⟩, fun k x => span_put.l6 k x.1.1 x.1.2.1 x.1.2.2.1 x.2.1.1 x.2.1.2.1 x.2.2.1⟩]
theorem span_put.ok (k : Nat) : Okf (XR E) Try.prog 87 (span_put.sig k) := ⟨fn_ok (C := fun k => tab.ctx fun f => lk f (span_put.calls k)) (fun k => tie _) k (fun j hj => calls_ok (kc (span_less.ok j) (kc (span_lead.ok j) (kc (span_has.ok j) (kc (tower_Add.ok j) (kc (slices_SortFunc89_c90.ok j) (kn))))))) 400 Try.func87 (body := span_put.body) (res := [.tmp 4]) rfl (by kernel_rfl) span_put.cuts (kc ⟨by kernel_rfl, rfl, fun _ => rfl, fun _ _ => by kernel_rfl⟩ (kn)) (fun x => by kernel_rfl), _, Try.func87, by kernel_rfl, by kernel_rfl⟩
/-! ### steeple/span.Basis: function 83 -/
def span_Basis.l3 : Nat → List S34 → List S34 → Int → Int → Option (List S34)
  | 0, _, _, _, _ => none
  | k + 1, x0, x1, x2, x3 => if x3 < x2 then (if 0 ≤ x3 then (if x3 < (x1.length : Int) then ((span_put.f k x0 (rd34 x1 x3)).bind fun r0 => span_Basis.l3 k r0 x1 x2 (wrap64 (x3 + 1))) else none) else none) else some x0
def span_Basis.f (k : Nat) (a0 : List S34) : Option (List S34) := span_Basis.l3 k [] a0 (a0.length : Int) 0
def span_Basis.sig (k : Nat) : Sig E.toTys := ⟨[.slice (.st 0)], [(false, .slice (.st 0))], none, fun x => f k x.1⟩
noncomputable def span_Basis.body : Code := Try.f83.body.getD .skip
def span_Basis.calls (k : Nat) : List (Nat × Sig E.toTys) := [(87, span_put.sig k)]
def span_Basis.cuts : List (Cut E (RT E.toTys [(false, .slice (.st 0))])) := [⟨true, 3, ⟨cat (ds 3) (cat [.one (.val (.slice (.st 0)))] (cat (ds 2) (cat [.one (.val (.slice (.st 0))), .one (.val (.int .i64)), .one (.val (.int .i64))] (ds 8)))), [], false⟩, fun k x => span_Basis.l3 k x.1.1 x.1.2.1 x.1.2.2.1 x.1.2.2.2.1⟩]
theorem span_Basis.ok (k : Nat) : Okf (XR E) Try.prog 83 (span_Basis.sig k) := ⟨fn_ok (C := fun k => tab.ctx fun f => lk f (span_Basis.calls k)) (fun k => tie _) k (fun j hj => calls_ok (kc (span_put.ok j) (kn))) 400 Try.func83 (body := span_Basis.body) (res := [.tmp 2]) rfl (by kernel_rfl) span_Basis.cuts (kc ⟨by kernel_rfl, rfl, fun _ => rfl, fun _ _ => by kernel_rfl⟩ (kn)) (fun x => by kernel_rfl), _, Try.func83, by kernel_rfl, by kernel_rfl⟩
/-! ### steeple/span.Rank: function 65 -/
def span_Rank.f (k : Nat) (a0 : List S34) : Option Int := (span_Basis.f k a0).bind fun r0 => some (r0.length : Int)
def span_Rank.sig (k : Nat) : Sig E.toTys := ⟨[.slice (.st 0)], [(false, .int .i64)], none, fun x => f k x.1⟩
noncomputable def span_Rank.body : Code := Try.f65.body.getD .skip
def span_Rank.calls (k : Nat) : List (Nat × Sig E.toTys) := [(83, span_Basis.sig k)]
def span_Rank.cuts : List (Cut E (RT E.toTys [(false, .int .i64)])) := []
theorem span_Rank.ok (k : Nat) : Okf (XR E) Try.prog 65 (span_Rank.sig k) := ⟨fn_ok (C := fun k => tab.ctx fun f => lk f (span_Rank.calls k)) (fun k => tie _) k (fun j hj => calls_ok (kc (span_Basis.ok j) (kn))) 400 Try.func65 (body := span_Rank.body) (res := [.tmp 2]) rfl (by kernel_rfl) span_Rank.cuts (kn) (fun x => by kernel_rfl), _, Try.func65, by kernel_rfl, by kernel_rfl⟩
/-! ### slices.Clone: function 62 -/
def slices_Clone62.f (k : Nat) (a0 : List S34) : Option (List S34) := if ([] : List Int).length + a0.length ≤ 140737488355328 / 16 then some ([] ++ a0) else none
def slices_Clone62.sig (k : Nat) : Sig E.toTys := ⟨[.slice (.st 0)], [(true, .slice (.st 0))], none, fun x => f k x.1⟩
noncomputable def slices_Clone62.body : Code := Try.f62.body.getD .skip
def slices_Clone62.calls (k : Nat) : List (Nat × Sig E.toTys) := []
def slices_Clone62.cuts : List (Cut E (RT E.toTys [(true, .slice (.st 0))])) := []
noncomputable def slices_Clone62.fn0 : Func := Try.f62
def slices_Clone62.st0 (xs : List S34) : St E.toTys := ⟨[.c (.s (.val (.slice (.st 0)) xs)), .c (.s .dead), .c (.s .emp), .c (.s .dead), .c (.s .dead), .c (.s .dead), .c (.s .dead), .c (.s .dead)], []⟩
theorem slices_Clone62.ok (k : Nat) : Okf (XR E) Try.prog 62 (slices_Clone62.sig k) := ⟨clone_ok (C := tab.ctx fun f => lk f (slices_Clone62.calls k)) (tie _) (calls_ok kn) (t := 23) (u := .st 0) Try.func62 rfl (res := [.tmp 2]) (by kernel_rfl) ⟨rfl, rfl, rfl⟩ ⟨rfl, rfl, rfl⟩ (by kernel_rfl) slices_Clone62.st0 (fun x => by kernel_rfl) (fun _ => rfl) (fun _ _ => ⟨rfl, rfl⟩) (F := fun x => slices_Clone62.f k x) (by kernel_rfl) (fun xs => by kernel_rfl), _, Try.func62, by kernel_rfl, by kernel_rfl⟩
/-! ### steeple/tower.halves: function 47 -/
def tower_halves.f (k : Nat) (a0 : Int) (a1 : Int) : Option (Int × Int) := if 0 ≤ wrap64 (a0 - 1) then (if 0 ≤ shl .i64 1 (wrap64 (a0 - 1)) then (if 0 ≤ shl .i64 1 (wrap64 (a0 - 1)) then some (shr .u64 a1 (shl .i64 1 (wrap64 (a0 - 1))), bits .and .u64 a1 (IntKind.u64.wrap ((shl .u64 1 (shl .i64 1 (wrap64 (a0 - 1)))) - 1))) else none) else none) else none
def tower_halves.sig (k : Nat) : Sig E.toTys := ⟨[.int .i64, .int .u64], [(false, .int .u64), (false, .int .u64)], none, fun x => f k x.1 x.2.1⟩
noncomputable def tower_halves.body : Code := Try.f47.body.getD .skip
def tower_halves.calls (k : Nat) : List (Nat × Sig E.toTys) := []
def tower_halves.cuts : List (Cut E (RT E.toTys [(false, .int .u64), (false, .int .u64)])) := []
theorem tower_halves.ok (k : Nat) : Okf (XR E) Try.prog 47 (tower_halves.sig k) := ⟨fn_ok (C := fun k => tab.ctx fun f => lk f (tower_halves.calls k)) (fun k => tie _) k (fun j hj => calls_ok (kn)) 400 Try.func47 (body := tower_halves.body) (res := [.tmp 4, .tmp 5]) rfl (by kernel_rfl) tower_halves.cuts (kn) (fun x => by kernel_rfl), _, Try.func47, by kernel_rfl, by kernel_rfl⟩
/-! ### steeple/tower.join: function 48 -/
def tower_join.f (k : Nat) (a0 : Int) (a1 : Int) (a2 : Int) : Option Int := if 0 ≤ wrap64 (a0 - 1) then (if 0 ≤ shl .u64 1 (wrap64 (a0 - 1)) then some (bits .or .u64 (shl .u64 a1 (shl .u64 1 (wrap64 (a0 - 1)))) a2) else none) else none
def tower_join.sig (k : Nat) : Sig E.toTys := ⟨[.int .i64, .int .u64, .int .u64], [(false, .int .u64)], none, fun x => f k x.1 x.2.1 x.2.2.1⟩
noncomputable def tower_join.body : Code := Try.f48.body.getD .skip
def tower_join.calls (k : Nat) : List (Nat × Sig E.toTys) := []
def tower_join.cuts : List (Cut E (RT E.toTys [(false, .int .u64)])) := []
theorem tower_join.ok (k : Nat) : Okf (XR E) Try.prog 48 (tower_join.sig k) := ⟨fn_ok (C := fun k => tab.ctx fun f => lk f (tower_join.calls k)) (fun k => tie _) k (fun j hj => calls_ok (kn)) 400 Try.func48 (body := tower_join.body) (res := [.tmp 6]) rfl (by kernel_rfl) tower_join.cuts (kn) (fun x => by kernel_rfl), _, Try.func48, by kernel_rfl, by kernel_rfl⟩
/-! ### steeple/tower.mulX: function 30 -/
def tower_mulX.f : Nat → Int → Int → Option Int
  | 0, _, _ => none
  | k + 1, a0, a1 => if a0 = 0 then some a1 else (tower_halves.f k a0 a1).bind fun r0 => (tower_mulX.f k (wrap64 (a0 - 1)) r0.1).bind fun r1 => (tower_join.f k a0 (bits .xor .u64 r0.2 r1) r0.1).bind fun r2 => some r2
def tower_mulX.sig (k : Nat) : Sig E.toTys := ⟨[.int .i64, .int .u64], [(false, .int .u64)], none, fun x => f k x.1 x.2.1⟩
noncomputable def tower_mulX.body : Code := Try.f30.body.getD .skip
def tower_mulX.calls (k : Nat) : List (Nat × Sig E.toTys) := [(47, tower_halves.sig k), (30, tower_mulX.sig k), (48, tower_join.sig k)]
def tower_mulX.cuts : List (Cut E (RT E.toTys [(false, .int .u64)])) := []
theorem tower_mulX.oks (k : Nat) : Okf (XR E) Try.prog 30 (tower_mulX.sig k) := by
  induction k using Nat.strongRecOn with
  | ind k ih =>
  cases k with
  | zero => exact ⟨ok0 fun _ => rfl, _, Try.func30, by kernel_rfl, by kernel_rfl⟩
  | succ k => exact ⟨fn_ok (C := fun k => tab.ctx fun f => lk f (tower_mulX.calls k)) (fun k => tie _) k (fun j hj => calls_ok (kc (tower_halves.ok j) (kc (ih j (Nat.lt_succ_of_le hj)) (kc (tower_join.ok j) (kn))))) 400 Try.func30 (body := tower_mulX.body) (res := [.tmp 4]) rfl (by kernel_rfl) tower_mulX.cuts (kn) (fun x => by kernel_rfl), _, Try.func30, by kernel_rfl, by kernel_rfl⟩
theorem tower_mulX.ok (k : Nat) : Okf (XR E) Try.prog 30 (tower_mulX.sig k) := (tower_mulX.oks k)
/-! ### steeple/tower.mul: function 29 -/
mutual
def tower_mul.j2 : Nat → Int → Int → Option Int
  | 0, _, _ => none
  | k + 1, x0, x1 => some (bits .and .u64 (bits .and .u64 x0 x1) 1)
def tower_mul.f : Nat → Int → Int → Int → Option Int
  | 0, _, _, _ => none
  | k + 1, a0, a1, a2 => if a0 = 0 then tower_mul.j2 k a1 a2 else if a1 = 0 then tower_mul.j2 k a1 a2 else if a2 = 0 then tower_mul.j2 k a1 a2 else (tower_halves.f k a0 a1).bind fun r0 => (tower_halves.f k a0 a2).bind fun r1 => (tower_mul.f k (wrap64 (a0 - 1)) r0.1 r1.1).bind fun r2 => (tower_mul.f k (wrap64 (a0 - 1)) r0.2 r1.2).bind fun r3 => (tower_mul.f k (wrap64 (a0 - 1)) (bits .xor .u64 r0.1 r0.2) (bits .xor .u64 r1.1 r1.2)).bind fun r4 => (tower_mulX.f k (wrap64 (a0 - 1)) r2).bind fun r5 => (tower_join.f k a0 (bits .xor .u64 (bits .xor .u64 (bits .xor .u64 r4 r2) r3) r5) (bits .xor .u64 r3 r2)).bind fun r6 => some r6
end
def tower_mul.sig (k : Nat) : Sig E.toTys := ⟨[.int .i64, .int .u64, .int .u64], [(false, .int .u64)], none, fun x => f k x.1 x.2.1 x.2.2.1⟩
noncomputable def tower_mul.body : Code := Try.f29.body.getD .skip
def tower_mul.calls (k : Nat) : List (Nat × Sig E.toTys) := [(47, tower_halves.sig k), (29, tower_mul.sig k), (30, tower_mulX.sig k), (48, tower_join.sig k)]
def tower_mul.cuts : List (Cut E (RT E.toTys [(false, .int .u64)])) := [⟨false, 2, ⟨cat (ds 1) (cat [.one (.val (.int .u64)), .one (.val (.int .u64))] (ds 71)), [], false⟩, fun k x => tower_mul.j2 k x.1.1 x.1.2.1⟩]
theorem tower_mul.oks (k : Nat) : Okf (XR E) Try.prog 29 (tower_mul.sig k) := by
  induction k using Nat.strongRecOn with
  | ind k ih =>
  cases k with
  | zero => exact ⟨ok0 fun _ => rfl, _, Try.func29, by kernel_rfl, by kernel_rfl⟩
  | succ k => exact ⟨fn_ok (C := fun k => tab.ctx fun f => lk f (tower_mul.calls k)) (fun k => tie _) k (fun j hj => calls_ok (kc (tower_halves.ok j) (kc (ih j (Nat.lt_succ_of_le hj)) (kc (tower_mulX.ok j) (kc (tower_join.ok j) (kn)))))) 400 Try.func29 (body := tower_mul.body) (res := [.tmp 6]) rfl (by kernel_rfl) tower_mul.cuts (kc ⟨by kernel_rfl, rfl, fun _ => rfl, fun _ _ => by kernel_rfl⟩ (kn)) (fun x => by kernel_rfl), _, Try.func29, by kernel_rfl, by kernel_rfl⟩
theorem tower_mul.ok (k : Nat) : Okf (XR E) Try.prog 29 (tower_mul.sig k) := (tower_mul.oks k)
/-! ### steeple/tower.Mul: function 10 -/
def tower_Mul.f (k : Nat) (a0 : Int) (a1 : S34) (a2 : S34) : Option S34 := (octet_Of.f k a0 a1).bind fun r0 => if (!r0) = true then some (⟨0, 0⟩ : S34) else (octet_Of.f k a0 a2).bind fun r1 => if (!r1) = true then some (⟨0, 0⟩ : S34) else if a0 ≤ 6 then ((tower_mul.f k a0 a1.f1 a2.f1).bind fun r2 => some (⟨0, r2⟩ : S34)) else (tower_mul.f k 6 a1.f0 a2.f0).bind fun r3 => (tower_mul.f k 6 a1.f1 a2.f1).bind fun r4 => (tower_mul.f k 6 (bits .xor .u64 a1.f0 a1.f1) (bits .xor .u64 a2.f0 a2.f1)).bind fun r5 => (tower_mulX.f k 6 r3).bind fun r6 => some (⟨bits .xor .u64 (bits .xor .u64 (bits .xor .u64 r5 r3) r4) r6, bits .xor .u64 r4 r3⟩ : S34)
def tower_Mul.sig (k : Nat) : Sig E.toTys := ⟨[.int .i64, .st 0, .st 0], [(false, .st 0)], none, fun x => f k x.1 x.2.1 x.2.2.1⟩
noncomputable def tower_Mul.body : Code := Try.f10.body.getD .skip
def tower_Mul.calls (k : Nat) : List (Nat × Sig E.toTys) := [(28, octet_Of.sig k), (29, tower_mul.sig k), (30, tower_mulX.sig k)]
def tower_Mul.cuts : List (Cut E (RT E.toTys [(false, .st 0)])) := []
theorem tower_Mul.ok (k : Nat) : Okf (XR E) Try.prog 10 (tower_Mul.sig k) := ⟨fn_ok (C := fun k => tab.ctx fun f => lk f (tower_Mul.calls k)) (fun k => tie _) k (fun j hj => calls_ok (kc (octet_Of.ok j) (kc (tower_mul.ok j) (kc (tower_mulX.ok j) (kn))))) 400 Try.func10 (body := tower_Mul.body) (res := [.cell 6 34]) rfl (by kernel_rfl) tower_Mul.cuts (kn) (fun x => by kernel_rfl), _, Try.func10, by kernel_rfl, by kernel_rfl⟩
/-! ### (*steeple/linpoly.Space).value: function 66 -/
def linpoly_Space_value.j2 : Nat → Option S77 → Int → Int → Int → Int → Int → Int → Option S34
  | 0, _, _, _, _, _, _, _ => none
  | k + 1, x0, x1, x2, x3, x4, x5, x6 => if x2 < x1 then ((match x0 with | none => none | some r0 => (match x0 with | none => none | some r1 => if 0 ≤ x2 then (if x2 < (r1.f2.length : Int) then ((tower_Add.f k (⟨x3, x4⟩ : S34) (rd34 r1.f2 x2)).bind fun r2 => (tower_Mul.f k r0.f0 (⟨x3, x4⟩ : S34) r2).bind fun r3 => linpoly_Space_value.j2 k x0 x1 (wrap64 (x2 + 1)) r3.f0 r3.f1 x5 x6) else none) else none))) else some (⟨x3, x4⟩ : S34)
def linpoly_Space_value.f (k : Nat) (a0 : Option S77) (a1 : Int) (a2 : S34) : Option S34 := linpoly_Space_value.j2 k a0 a1 0 a2.f0 a2.f1 0 0
def linpoly_Space_value.sig (k : Nat) : Sig E.toTys := ⟨[.ptr (.st 2), .int .i64, .st 0], [(false, .st 0)], none, fun x => f k x.1 x.2.1 x.2.2.1⟩
noncomputable def linpoly_Space_value.body : Code := Try.f66.body.getD .skip
def linpoly_Space_value.calls (k : Nat) : List (Nat × Sig E.toTys) := [(18, tower_Add.sig k), (10, tower_Mul.sig k)]
def linpoly_Space_value.cuts : List (Cut E (RT E.toTys [(false, .st 0)])) := [⟨false, 2, ⟨cat [.one (.val (.ptr (.st 2))), .one (.val (.int .i64))] (cat (ds 3) (cat [.one (.ptr 0 0), .one (.ptr 1 0), .one (.val (.int .i64))] (ds 21))), [.var [.val (.int .u64), .val (.int .u64)], .var [.val (.int .u64), .val (.int .u64)]], false⟩, fun k x => linpoly_Space_value.j2 k x.1.1 x.1.2.1 x.1.2.2.1 x.2.1.1 x.2.1.2.1 x.2.2.1.1 x.2.2.1.2.1⟩]
theorem linpoly_Space_value.ok (k : Nat) : Okf (XR E) Try.prog 66 (linpoly_Space_value.sig k) := ⟨fn_ok (C := fun k => tab.ctx fun f => lk f (linpoly_Space_value.calls k)) (fun k => tie _) k (fun j hj => calls_ok (kc (tower_Add.ok j) (kc (tower_Mul.ok j) (kn)))) 400 Try.func66 (body := linpoly_Space_value.body) (res := [.cell 6 34]) rfl (by kernel_rfl) linpoly_Space_value.cuts (kc ⟨by kernel_rfl, rfl, fun _ => rfl, fun _ _ => by kernel_rfl⟩ (kn)) (fun x => by kernel_rfl), _, Try.func66, by kernel_rfl, by kernel_rfl⟩
/-! ### steeple/tower.square: function 74 -/
def tower_square.f : Nat → Int → Int → Option Int
  | 0, _, _ => none
  | k + 1, a0, a1 => if a0 = 0 then some a1 else (tower_halves.f k a0 a1).bind fun r0 => (tower_square.f k (wrap64 (a0 - 1)) r0.1).bind fun r1 => (tower_mulX.f k (wrap64 (a0 - 1)) r1).bind fun r2 => (tower_square.f k (wrap64 (a0 - 1)) r0.2).bind fun r3 => (tower_join.f k a0 r2 (bits .xor .u64 r3 r1)).bind fun r4 => some r4
def tower_square.sig (k : Nat) : Sig E.toTys := ⟨[.int .i64, .int .u64], [(false, .int .u64)], none, fun x => f k x.1 x.2.1⟩
noncomputable def tower_square.body : Code := Try.f74.body.getD .skip
def tower_square.calls (k : Nat) : List (Nat × Sig E.toTys) := [(47, tower_halves.sig k), (74, tower_square.sig k), (30, tower_mulX.sig k), (48, tower_join.sig k)]
def tower_square.cuts : List (Cut E (RT E.toTys [(false, .int .u64)])) := []
theorem tower_square.oks (k : Nat) : Okf (XR E) Try.prog 74 (tower_square.sig k) := by
  induction k using Nat.strongRecOn with
  | ind k ih =>
  cases k with
  | zero => exact ⟨ok0 fun _ => rfl, _, Try.func74, by kernel_rfl, by kernel_rfl⟩
  | succ k => exact ⟨fn_ok (C := fun k => tab.ctx fun f => lk f (tower_square.calls k)) (fun k => tie _) k (fun j hj => calls_ok (kc (tower_halves.ok j) (kc (ih j (Nat.lt_succ_of_le hj)) (kc (tower_mulX.ok j) (kc (tower_join.ok j) (kn)))))) 400 Try.func74 (body := tower_square.body) (res := [.tmp 4]) rfl (by kernel_rfl) tower_square.cuts (kn) (fun x => by kernel_rfl), _, Try.func74, by kernel_rfl, by kernel_rfl⟩
theorem tower_square.ok (k : Nat) : Okf (XR E) Try.prog 74 (tower_square.sig k) := (tower_square.oks k)
/-! ### steeple/tower.inv: function 84 -/
def tower_inv.f : Nat → Int → Int → Option Int
  | 0, _, _ => none
  | k + 1, a0, a1 => if a0 = 0 then some a1 else (tower_halves.f k a0 a1).bind fun r0 => (tower_mulX.f k (wrap64 (a0 - 1)) r0.1).bind fun r1 => (tower_mul.f k (wrap64 (a0 - 1)) r0.2 (bits .xor .u64 r0.2 r1)).bind fun r2 => (tower_square.f k (wrap64 (a0 - 1)) r0.1).bind fun r3 => (tower_inv.f k (wrap64 (a0 - 1)) (bits .xor .u64 r2 r3)).bind fun r4 => (tower_mul.f k (wrap64 (a0 - 1)) r0.1 r4).bind fun r5 => (tower_mul.f k (wrap64 (a0 - 1)) (bits .xor .u64 r0.2 r1) r4).bind fun r6 => (tower_join.f k a0 r5 r6).bind fun r7 => some r7
def tower_inv.sig (k : Nat) : Sig E.toTys := ⟨[.int .i64, .int .u64], [(false, .int .u64)], none, fun x => f k x.1 x.2.1⟩
noncomputable def tower_inv.body : Code := Try.f84.body.getD .skip
def tower_inv.calls (k : Nat) : List (Nat × Sig E.toTys) := [(47, tower_halves.sig k), (30, tower_mulX.sig k), (29, tower_mul.sig k), (74, tower_square.sig k), (84, tower_inv.sig k), (48, tower_join.sig k)]
def tower_inv.cuts : List (Cut E (RT E.toTys [(false, .int .u64)])) := []
theorem tower_inv.oks (k : Nat) : Okf (XR E) Try.prog 84 (tower_inv.sig k) := by
  induction k using Nat.strongRecOn with
  | ind k ih =>
  cases k with
  | zero => exact ⟨ok0 fun _ => rfl, _, Try.func84, by kernel_rfl, by kernel_rfl⟩
  | succ k => exact ⟨fn_ok (C := fun k => tab.ctx fun f => lk f (tower_inv.calls k)) (fun k => tie _) k (fun j hj => calls_ok (kc (tower_halves.ok j) (kc (tower_mulX.ok j) (kc (tower_mul.ok j) (kc (tower_square.ok j) (kc (ih j (Nat.lt_succ_of_le hj)) (kc (tower_join.ok j) (kn)))))))) 400 Try.func84 (body := tower_inv.body) (res := [.tmp 4]) rfl (by kernel_rfl) tower_inv.cuts (kn) (fun x => by kernel_rfl), _, Try.func84, by kernel_rfl, by kernel_rfl⟩
theorem tower_inv.ok (k : Nat) : Okf (XR E) Try.prog 84 (tower_inv.sig k) := (tower_inv.oks k)
/-! ### steeple/tower.Inv: function 67 -/
def tower_Inv.f (k : Nat) (a0 : Int) (a1 : S34) : Option S34 := (octet_Of.f k a0 a1).bind fun r0 => if (!r0) = true then some (⟨0, 0⟩ : S34) else if a0 ≤ 6 then ((tower_inv.f k a0 a1.f1).bind fun r1 => some (⟨0, r1⟩ : S34)) else (tower_mulX.f k 6 a1.f0).bind fun r2 => (tower_mul.f k 6 a1.f1 (bits .xor .u64 a1.f1 r2)).bind fun r3 => (tower_square.f k 6 a1.f0).bind fun r4 => (tower_inv.f k 6 (bits .xor .u64 r3 r4)).bind fun r5 => (tower_mul.f k 6 a1.f0 r5).bind fun r6 => (tower_mul.f k 6 (bits .xor .u64 a1.f1 r2) r5).bind fun r7 => some (⟨r6, r7⟩ : S34)
def tower_Inv.sig (k : Nat) : Sig E.toTys := ⟨[.int .i64, .st 0], [(false, .st 0)], none, fun x => f k x.1 x.2.1⟩
noncomputable def tower_Inv.body : Code := Try.f67.body.getD .skip
def tower_Inv.calls (k : Nat) : List (Nat × Sig E.toTys) := [(28, octet_Of.sig k), (84, tower_inv.sig k), (30, tower_mulX.sig k), (29, tower_mul.sig k), (74, tower_square.sig k)]
def tower_Inv.cuts : List (Cut E (RT E.toTys [(false, .st 0)])) := []
theorem tower_Inv.ok (k : Nat) : Okf (XR E) Try.prog 67 (tower_Inv.sig k) := ⟨fn_ok (C := fun k => tab.ctx fun f => lk f (tower_Inv.calls k)) (fun k => tie _) k (fun j hj => calls_ok (kc (octet_Of.ok j) (kc (tower_inv.ok j) (kc (tower_mulX.ok j) (kc (tower_mul.ok j) (kc (tower_square.ok j) (kn))))))) 400 Try.func67 (body := tower_Inv.body) (res := [.cell 4 34]) rfl (by kernel_rfl) tower_Inv.cuts (kn) (fun x => by kernel_rfl), _, Try.func67, by kernel_rfl, by kernel_rfl⟩
/-! ### steeple/linpoly.New: function 40 -/
def linpoly_New.l11 : Nat → List S34 → Int → Int → Int → Int → List S34 → List S34 → List S34 → Option ((Option S77) × Int)
  | 0, _, _, _, _, _, _, _, _ => none
  | k + 1, x0, x1, x2, x3, x4, x5, x6, x7 => if x2 < x1 then (if 0 ≤ x2 then (if x2 < (x0.length : Int) then ((linpoly_Space_value.f k (some (⟨x4, x5, x6, x7⟩ : S77)) x2 (rd34 x0 x2)).bind fun r4 => if x6.length + [r4].length ≤ 140737488355328 / 16 then ((tower_Inv.f k x3 r4).bind fun r5 => if x7.length + [r5].length ≤ 140737488355328 / 16 then linpoly_New.l11 k x0 x1 (wrap64 (x2 + 1)) x3 x4 x5 (x6 ++ [r4]) (x7 ++ [r5]) else none) else none) else none) else none) else some (some (⟨x4, x5, x6, x7⟩ : S77), 0)
def linpoly_New.f (k : Nat) (a0 : Int) (a1 : List S34) : Option ((Option S77) × Int) := (octet_Wide.f k a0).bind fun r0 => if r0 = 0 then some (none, 1) else if (a1.length : Int) > 10 then some (none, 2) else (slices_ContainsFunc52_c64.f k a1 a0).bind fun r1 => if r1 = true then some (none, 5) else (span_Rank.f k a1).bind fun r2 => if r2 < (a1.length : Int) then some (none, 7) else (slices_Clone62.f k a1).bind fun r3 => linpoly_New.l11 k a1 (a1.length : Int) 0 a0 a0 r3 [] []
def linpoly_New.sig (k : Nat) : Sig E.toTys := ⟨[.int .i64, .slice (.st 0)], [(false, .ptr (.st 2)), (false, .int .i64)], none, fun x => f k x.1 x.2.1⟩
noncomputable def linpoly_New.body : Code := Try.f40.body.getD .skip
def linpoly_New.calls (k : Nat) : List (Nat × Sig E.toTys) := [(24, octet_Wide.sig k), (52, slices_ContainsFunc52_c64.sig k), (65, span_Rank.sig k), (62, slices_Clone62.sig k), (66, linpoly_Space_value.sig k), (67, tower_Inv.sig k)]
def linpoly_New.cuts : List (Cut E (RT E.toTys [(false, .ptr (.st 2)), (false, .int .i64)])) := [⟨true, 11, ⟨cat (ds 2) (cat [.one (.ptr 0 0)] (cat (ds 3) (cat [.one (.ptr 1 0)] (cat (ds 26) (cat [.one (.val (.slice (.st 0))), .one (.val (.int .i64)), .one (.val (.int .i64))] (ds 32)))))), [.var [.val (.int .i64)], .var [.val (.int .i64), .ref 2, .ref 3, .ref 4], .arr (.st 0), .arr (.st 0), .arr (.st 0)], false⟩, fun k x => linpoly_New.l11 k x.1.1 x.1.2.1 x.1.2.2.1 x.2.1.1 x.2.2.1.1 x.2.2.2.1 x.2.2.2.2.1 x.2.2.2.2.2.1⟩]
theorem linpoly_New.ok (k : Nat) : Okf (XR E) Try.prog 40 (linpoly_New.sig k) := ⟨fn_ok (C := fun k => (tab.ctx fun f => lk f (linpoly_New.calls k)).pmd [(14, 5, [1]), (14, 6, [6]), (14, 7, []), (14, 8, [3]), (14, 12, [1]), (14, 13, [0]), (14, 14, [6]), (14, 15, []), (14, 16, []), (14, 17, [4]), (14, 20, [1]), (14, 23, [1])]) (fun k => (tie _).pmd _) k (fun j hj => (calls_ok (kc (octet_Wide.ok j) (kc (slices_ContainsFunc52_c64.ok j) (kc (span_Rank.ok j) (kc (slices_Clone62.ok j) (kc (linpoly_Space_value.ok j) (kc (tower_Inv.ok j) (kn)))))))).pmd _) 400 Try.func40 (body := linpoly_New.body) (res := [.tmp 4, .tmp 5]) rfl (by kernel_rfl) linpoly_New.cuts (kc ⟨by kernel_rfl, rfl, fun _ => rfl, fun _ _ => by kernel_rfl⟩ (kn)) (fun x => by kernel_rfl), _, Try.func40, by kernel_rfl, by kernel_rfl⟩
/-! ### steeple/linpoly.Plain: function 20 -/
def linpoly_Plain.l9 : Nat → Int → Int → Int → List S34 → Option ((Option S77) × Int)
  | 0, _, _, _, _ => none
  | k + 1, x0, x1, x2, x3 => if x2 < x1 then ((tower_Bit.f k x2).bind fun r1 => if x3.length + [r1].length ≤ 140737488355328 / 16 then linpoly_Plain.l9 k x0 x1 (wrap64 (x2 + 1)) (x3 ++ [r1]) else none) else (linpoly_New.f k x0 x3).bind fun r2 => some (r2.1, r2.2)
def linpoly_Plain.f (k : Nat) (a0 : Int) (a1 : Int) : Option ((Option S77) × Int) := (octet_Wide.f k a0).bind fun r0 => if r0 = 0 then some (none, 1) else if a1 < 0 then some (none, 1) else if a1 > 10 then some (none, 2) else if 0 ≤ a0 then (if a1 > shl .i64 1 a0 then some (none, 7) else linpoly_Plain.l9 k a0 a1 0 []) else none
def linpoly_Plain.sig (k : Nat) : Sig E.toTys := ⟨[.int .i64, .int .i64], [(false, .ptr (.st 2)), (false, .int .i64)], none, fun x => f k x.1 x.2.1⟩
noncomputable def linpoly_Plain.body : Code := Try.f20.body.getD .skip
def linpoly_Plain.calls (k : Nat) : List (Nat × Sig E.toTys) := [(24, octet_Wide.sig k), (19, tower_Bit.sig k), (40, linpoly_New.sig k)]
def linpoly_Plain.cuts : List (Cut E (RT E.toTys [(false, .ptr (.st 2)), (false, .int .i64)])) := [⟨true, 9, ⟨cat [.one (.val (.int .i64))] (cat (ds 5) (cat [.one (.ref 0)] (cat (ds 17) (cat [.one (.val (.int .i64)), .one (.val (.int .i64))] (ds 13))))), [.arr (.st 0)], false⟩, fun k x => linpoly_Plain.l9 k x.1.1 x.1.2.1 x.1.2.2.1 x.2.1⟩]
theorem linpoly_Plain.ok (k : Nat) : Okf (XR E) Try.prog 20 (linpoly_Plain.sig k) := ⟨fn_ok (C := fun k => tab.ctx fun f => lk f (linpoly_Plain.calls k)) (fun k => tie _) k (fun j hj => calls_ok (kc (octet_Wide.ok j) (kc (tower_Bit.ok j) (kc (linpoly_New.ok j) (kn))))) 400 Try.func20 (body := linpoly_Plain.body) (res := [.tmp 4, .tmp 5]) rfl (by kernel_rfl) linpoly_Plain.cuts (kc ⟨by kernel_rfl, rfl, fun _ => rfl, fun _ _ => by kernel_rfl⟩ (kn)) (fun x => by kernel_rfl), _, Try.func20, by kernel_rfl, by kernel_rfl⟩
/-! ### steeple/span.Point: function 41 -/
mutual
def span_Point.l3 : Nat → List S34 → Int → Int → Int → Int → Int → Int → Int → Option S34
  | 0, _, _, _, _, _, _, _, _ => none
  | k + 1, x0, x1, x2, x3, x4, x5, x6, x7 => if x3 < x2 then (if x1 > 0 then (if 0 ≤ x3 then (if bits .and .i64 (shr .i64 x1 x3) 1 = 1 then (if 0 ≤ x3 then (if x3 < (x0.length : Int) then ((tower_Add.f k (⟨x6, x7⟩ : S34) (rd34 x0 x3)).bind fun r0 => span_Point.j7 k x0 x1 x2 x3 x4 x5 r0.f0 r0.f1) else none) else none) else span_Point.j7 k x0 x1 x2 x3 x4 x5 x6 x7) else none) else span_Point.j7 k x0 x1 x2 x3 x4 x5 x6 x7) else some (⟨x6, x7⟩ : S34)
def span_Point.j7 : Nat → List S34 → Int → Int → Int → Int → Int → Int → Int → Option S34
  | 0, _, _, _, _, _, _, _, _ => none
  | k + 1, x0, x1, x2, x3, x4, x5, x6, x7 => span_Point.l3 k x0 x1 x2 (wrap64 (x3 + 1)) x4 x5 x6 x7
end
def span_Point.f (k : Nat) (a0 : List S34) (a1 : Int) : Option S34 := span_Point.l3 k a0 a1 (if 62 < (a0.length : Int) then (62 : Int) else (a0.length : Int)) 0 0 0 0 0
def span_Point.sig (k : Nat) : Sig E.toTys := ⟨[.slice (.st 0), .int .i64], [(false, .st 0)], none, fun x => f k x.1 x.2.1⟩
noncomputable def span_Point.body : Code := Try.f41.body.getD .skip
def span_Point.calls (k : Nat) : List (Nat × Sig E.toTys) := [(18, tower_Add.sig k)]
def span_Point.cuts : List (Cut E (RT E.toTys [(false, .st 0)])) := [⟨true, 3, ⟨cat [.one (.val (.slice (.st 0))), .one (.val (.int .i64))] (cat (ds 2) (cat [.one (.ptr 0 0), .one (.ptr 1 0)] (cat (ds 3) (cat [.one (.val (.int .i64)), .one (.val (.int .i64))] (ds 19))))), [.var [.val (.int .u64), .val (.int .u64)], .var [.val (.int .u64), .val (.int .u64)]], false⟩, fun k x => span_Point.l3 k x.1.1 x.1.2.1 x.1.2.2.1 x.1.2.2.2.1 x.2.1.1 x.2.1.2.1 x.2.2.1.1 x.2.2.1.2.1⟩,
  ⟨false, 7, ⟨cat [.one (.val (.slice (.st 0))), .one (.val (.int .i64))] (cat (ds 2) (cat [.one (.ptr 0 0), .one (.ptr 1 0)] (cat (ds 3) (cat [.one (.val (.int .i64)), .one (.val (.int .i64))] (ds 19))))), [.var [.val (.int .u64), .val (.int .u64)], .var [.val (.int .u64), .val (.int .u64)]], false⟩, fun k x => span_Point.j7 k x.1.1 x.1.2.1 x.1.2.2.1 x.1.2.2.2.1 x.2.1.1 x.2.1.2.1 x.2.2.1.1 x.2.2.1.2.1⟩]
theorem span_Point.ok (k : Nat) : Okf (XR E) Try.prog 41 (span_Point.sig k) := ⟨fn_ok (C := fun k => tab.ctx fun f => lk f (span_Point.calls k)) (fun k => tie _) k (fun j hj => calls_ok (kc (tower_Add.ok j) (kn))) 400 Try.func41 (body := span_Point.body) (res := [.cell 4 34]) rfl (by kernel_rfl) span_Point.cuts (kc ⟨by kernel_rfl, rfl, fun _ => rfl, fun _ _ => by kernel_rfl⟩ (kc ⟨by kernel_rfl, rfl, fun _ => rfl, fun _ _ => by kernel_rfl⟩ (kn))) (fun x => by kernel_rfl), _, Try.func41, by kernel_rfl, by kernel_rfl⟩
/-! ### (*steeple/linpoly.Space).Point: function 21 -/
def linpoly_Space_Point.j2 : Nat → Int → Int → Option S34
  | 0, _, _ => none
  | k + 1, _, _ => some (⟨0, 0⟩ : S34)
def linpoly_Space_Point.f (k : Nat) (a0 : Option S77) (a1 : Int) : Option S34 := (match a0 with | none => linpoly_Space_Point.j2 k 0 0 | some _ => if a1 < 0 then linpoly_Space_Point.j2 k 0 0 else (match a0 with | none => none | some r0 => if 0 ≤ (r0.f1.length : Int) then (if a1 ≥ shl .i64 1 (r0.f1.length : Int) then linpoly_Space_Point.j2 k 0 0 else (match a0 with | none => none | some r1 => (span_Point.f k r1.f1 a1).bind fun r2 => some r2)) else none))
def linpoly_Space_Point.sig (k : Nat) : Sig E.toTys := ⟨[.ptr (.st 2), .int .i64], [(false, .st 0)], none, fun x => f k x.1 x.2.1⟩
noncomputable def linpoly_Space_Point.body : Code := Try.f21.body.getD .skip
def linpoly_Space_Point.calls (k : Nat) : List (Nat × Sig E.toTys) := [(41, span_Point.sig k)]
def linpoly_Space_Point.cuts : List (Cut E (RT E.toTys [(false, .st 0)])) := [⟨false, 2, ⟨cat (ds 4) (cat [.one (.ptr 0 0)] (ds 23)), [.var [.val (.int .u64), .val (.int .u64)]], false⟩, fun k x => linpoly_Space_Point.j2 k x.2.1.1 x.2.1.2.1⟩]
theorem linpoly_Space_Point.ok (k : Nat) : Okf (XR E) Try.prog 21 (linpoly_Space_Point.sig k) := ⟨fn_ok (C := fun k => tab.ctx fun f => lk f (linpoly_Space_Point.calls k)) (fun k => tie _) k (fun j hj => calls_ok (kc (span_Point.ok j) (kn))) 400 Try.func21 (body := linpoly_Space_Point.body) (res := [.cell 4 34]) rfl (by kernel_rfl) linpoly_Space_Point.cuts (kc ⟨by kernel_rfl, rfl, fun _ => rfl, fun _ _ => by kernel_rfl⟩ (kn)) (fun x => by kernel_rfl), _, Try.func21, by kernel_rfl, by kernel_rfl⟩
/-! ### steeple/steepletop.fine: function 5 -/
def steepletop_fine.f (k : Nat) : Option Bool := (linpoly_Plain.f k 2 2).bind fun r0 => if r0.2 = 0 then ((linpoly_Space_Point.f k r0.1 3).bind fun r1 => some (decide (r1.f0 = 0 ∧ r1.f1 = 3))) else some false
def steepletop_fine.sig (k : Nat) : Sig E.toTys := ⟨[], [(false, .bool)], none, fun x => f k⟩
noncomputable def steepletop_fine.body : Code := Try.f5.body.getD .skip
def steepletop_fine.calls (k : Nat) : List (Nat × Sig E.toTys) := [(20, linpoly_Plain.sig k), (21, linpoly_Space_Point.sig k)]
def steepletop_fine.cuts : List (Cut E (RT E.toTys [(false, .bool)])) := []
theorem steepletop_fine.ok (k : Nat) : Okf (XR E) Try.prog 5 (steepletop_fine.sig k) := ⟨fn_ok (C := fun k => tab.ctx fun f => lk f (steepletop_fine.calls k)) (fun k => tie _) k (fun j hj => calls_ok (kc (linpoly_Plain.ok j) (kc (linpoly_Space_Point.ok j) (kn)))) 400 Try.func5 (body := steepletop_fine.body) (res := [.tmp 0]) rfl (by kernel_rfl) steepletop_fine.cuts (kn) (fun x => by kernel_rfl), _, Try.func5, by kernel_rfl, by kernel_rfl⟩
/-! ### steeple/cube.Log: function 38 -/
def cube_Log.l2 : Nat → Int → Int → Option Int
  | 0, _, _ => none
  | k + 1, x0, x1 => if x1 < 17 then (if 0 ≤ x1 then (if x0 = shl .i64 1 x1 then some x1 else cube_Log.l2 k x0 (wrap64 (x1 + 1))) else none) else some (-1)
def cube_Log.f (k : Nat) (a0 : Int) : Option Int := cube_Log.l2 k a0 0
def cube_Log.sig (k : Nat) : Sig E.toTys := ⟨[.int .i64], [(false, .int .i64)], none, fun x => f k x.1⟩
noncomputable def cube_Log.body : Code := Try.f38.body.getD .skip
def cube_Log.calls (k : Nat) : List (Nat × Sig E.toTys) := []
def cube_Log.cuts : List (Cut E (RT E.toTys [(false, .int .i64)])) := [⟨true, 2, ⟨cat [.one (.val (.int .i64))] (cat (ds 3) (cat [.one (.val (.int .i64))] (ds 8))), [], false⟩, fun k x => cube_Log.l2 k x.1.1 x.1.2.1⟩]
theorem cube_Log.ok (k : Nat) : Okf (XR E) Try.prog 38 (cube_Log.sig k) := ⟨fn_ok (C := fun k => tab.ctx fun f => lk f (cube_Log.calls k)) (fun k => tie _) k (fun j hj => calls_ok (kn)) 400 Try.func38 (body := cube_Log.body) (res := [.tmp 2]) rfl (by kernel_rfl) cube_Log.cuts (kc ⟨by kernel_rfl, rfl, fun _ => rfl, fun _ _ => by kernel_rfl⟩ (kn)) (fun x => by kernel_rfl), _, Try.func38, by kernel_rfl, by kernel_rfl⟩
/-! ### steeple/ring.ask: function 22 -/
def ring_ask.f (k : Nat) (a0 : Int) (a1 : List Bool) : Option Int := (octet_Wide.f k a0).bind fun r0 => if r0 = 0 then some 1 else (cube_Log.f k (a1.length : Int)).bind fun r1 => if r1 < a0 then some 6 else if r1 > 12 then some 6 else some 0
def ring_ask.sig (k : Nat) : Sig E.toTys := ⟨[.int .i64, .slice .bool], [(false, .int .i64)], none, fun x => f k x.1 x.2.1⟩
noncomputable def ring_ask.body : Code := Try.f22.body.getD .skip
def ring_ask.calls (k : Nat) : List (Nat × Sig E.toTys) := [(24, octet_Wide.sig k), (38, cube_Log.sig k)]
def ring_ask.cuts : List (Cut E (RT E.toTys [(false, .int .i64)])) := []
theorem ring_ask.ok (k : Nat) : Okf (XR E) Try.prog 22 (ring_ask.sig k) := ⟨fn_ok (C := fun k => tab.ctx fun f => lk f (ring_ask.calls k)) (fun k => tie _) k (fun j hj => calls_ok (kc (octet_Wide.ok j) (kc (cube_Log.ok j) (kn)))) 400 Try.func22 (body := ring_ask.body) (res := [.tmp 4]) rfl (by kernel_rfl) ring_ask.cuts (kn) (fun x => by kernel_rfl), _, Try.func22, by kernel_rfl, by kernel_rfl⟩
/-! ### steeple/tower.One: function 11 -/
def tower_One.f (k : Nat) : Option S34 := some (⟨0, 1⟩ : S34)
def tower_One.sig (k : Nat) : Sig E.toTys := ⟨[], [(false, .st 0)], none, fun x => f k⟩
noncomputable def tower_One.body : Code := Try.f11.body.getD .skip
def tower_One.calls (k : Nat) : List (Nat × Sig E.toTys) := []
def tower_One.cuts : List (Cut E (RT E.toTys [(false, .st 0)])) := []
theorem tower_One.ok (k : Nat) : Okf (XR E) Try.prog 11 (tower_One.sig k) := ⟨fn_ok (C := fun k => tab.ctx fun f => lk f (tower_One.calls k)) (fun k => tie _) k (fun j hj => calls_ok (kn)) 400 Try.func11 (body := tower_One.body) (res := [.cell 0 34]) rfl (by kernel_rfl) tower_One.cuts (kn) (fun x => by kernel_rfl), _, Try.func11, by kernel_rfl, by kernel_rfl⟩
/-! ### steeple/weave.ask: function 68 -/
def weave_ask.f (k : Nat) (a0 : Int) (a1 : Int) : Option Int := (octet_Wide.f k a0).bind fun r0 => if r0 = 0 then some 1 else (octet_Wide.f k a1).bind fun r1 => if r1 = 0 then some 1 else if a1 < a0 then some 1 else some 0
def weave_ask.sig (k : Nat) : Sig E.toTys := ⟨[.int .i64, .int .i64], [(false, .int .i64)], none, fun x => f k x.1 x.2.1⟩
noncomputable def weave_ask.body : Code := Try.f68.body.getD .skip
def weave_ask.calls (k : Nat) : List (Nat × Sig E.toTys) := [(24, octet_Wide.sig k)]
def weave_ask.cuts : List (Cut E (RT E.toTys [(false, .int .i64)])) := []
theorem weave_ask.ok (k : Nat) : Okf (XR E) Try.prog 68 (weave_ask.sig k) := ⟨fn_ok (C := fun k => tab.ctx fun f => lk f (weave_ask.calls k)) (fun k => tie _) k (fun j hj => calls_ok (kc (octet_Wide.ok j) (kn))) 400 Try.func68 (body := weave_ask.body) (res := [.tmp 4]) rfl (by kernel_rfl) weave_ask.cuts (kn) (fun x => by kernel_rfl), _, Try.func68, by kernel_rfl, by kernel_rfl⟩
/-! ### steeple/weave.of$1: function 85 -/
def weave_of_1.f (k : Nat) (a0 : S34) (a1 : Option Int) : Option Bool := (match a1 with | none => none | some r0 => (octet_Of.f k r0 a0).bind fun r1 => some (!r1))
def weave_of_1.sig (k : Nat) : Sig E.toTys := ⟨[.st 0, .ptr (.int .i64)], [(false, .bool)], none, fun x => f k x.1 x.2.1⟩
noncomputable def weave_of_1.body : Code := Try.f85.body.getD .skip
def weave_of_1.calls (k : Nat) : List (Nat × Sig E.toTys) := [(28, octet_Of.sig k)]
def weave_of_1.cuts : List (Cut E (RT E.toTys [(false, .bool)])) := []
theorem weave_of_1.ok (k : Nat) : Okf (XR E) Try.prog 85 (weave_of_1.sig k) := ⟨fn_ok (C := fun k => tab.ctx fun f => lk f (weave_of_1.calls k)) (fun k => tie _) k (fun j hj => calls_ok (kc (octet_Of.ok j) (kn))) 400 Try.func85 (body := weave_of_1.body) (res := [.tmp 3]) rfl (by kernel_rfl) weave_of_1.cuts (kn) (fun x => by kernel_rfl), _, Try.func85, by kernel_rfl, by kernel_rfl⟩
end Go.Proofs.Ytfmjodlcjaflfaa.B
namespace Go.Proofs.Ytfmjodlcjaflfaa.B
open Go.Proofs.Ytfmjodlcjaflfaa.V.B Go.RowKit
set_option linter.unusedVariables false
/-! ### slices.IndexFunc: function 77 -/
def slices_IndexFunc77_c85.l2 : Nat → List S34 → Int → Int → Int → Option Int
  | 0, _, _, _, _ => none
  | k + 1, x0, x1, x2, x3 => if x3 < x2 then (if 0 ≤ x3 then (if x3 < (x0.length : Int) then ((weave_of_1.f k (rd34 x0 x3) (some x1)).bind fun r0 => if r0 = true then some x3 else slices_IndexFunc77_c85.l2 k x0 x1 x2 (wrap64 (x3 + 1))) else none) else none) else some (-1)
def slices_IndexFunc77_c85.f (k : Nat) (a0 : List S34) (a1 : Int) : Option Int := slices_IndexFunc77_c85.l2 k a0 a1 (a0.length : Int) 0
def slices_IndexFunc77_c85.sig (k : Nat) : Sig E.toTys := ⟨[.slice (.st 0), .ext 85 (.int .i64)], [(false, .int .i64)], none, fun x => f k x.1 x.2.1⟩
noncomputable def slices_IndexFunc77_c85.body : Code := Try.f77.body.getD .skip
def slices_IndexFunc77_c85.calls (k : Nat) : List (Nat × Sig E.toTys) := [(85, weave_of_1.sig k)]
def slices_IndexFunc77_c85.cuts : List (Cut E (RT E.toTys [(false, .int .i64)])) := [⟨true, 2, ⟨cat [.one (.val (.slice (.st 0))), .one (.val (.ext 85 (.int .i64)))] (cat (ds 5) (cat [.one (.val (.int .i64)), .one (.val (.int .i64))] (ds 10))), [], false⟩, fun k x => slices_IndexFunc77_c85.l2 k x.1.1 x.1.2.1 x.1.2.2.1 x.1.2.2.2.1⟩]
theorem slices_IndexFunc77_c85.ok (k : Nat) : Okf (XR E) Try.prog 77 (slices_IndexFunc77_c85.sig k) := ⟨fn_ok (C := fun k => tab.ctx fun f => lk f (slices_IndexFunc77_c85.calls k)) (fun k => tie _) k (fun j hj => calls_ok (kc (weave_of_1.ok j) (kn))) 400 Try.func77 (body := slices_IndexFunc77_c85.body) (res := [.tmp 4]) rfl (by kernel_rfl) slices_IndexFunc77_c85.cuts (kc ⟨by kernel_rfl, rfl, fun _ => rfl, fun _ _ => by kernel_rfl⟩ (kn)) (fun x => by kernel_rfl), _, Try.func77, by kernel_rfl, by kernel_rfl⟩
/-! ### slices.ContainsFunc: function 52 -/
def slices_ContainsFunc52_c85.f (k : Nat) (a0 : List S34) (a1 : Int) : Option Bool := (slices_IndexFunc77_c85.f k a0 a1).bind fun r0 => some (decide (r0 ≥ 0))
def slices_ContainsFunc52_c85.sig (k : Nat) : Sig E.toTys := ⟨[.slice (.st 0), .ext 85 (.int .i64)], [(false, .bool)], none, fun x => f k x.1 x.2.1⟩
noncomputable def slices_ContainsFunc52_c85.body : Code := Try.f52.body.getD .skip
def slices_ContainsFunc52_c85.calls (k : Nat) : List (Nat × Sig E.toTys) := [(77, slices_IndexFunc77_c85.sig k)]
def slices_ContainsFunc52_c85.cuts : List (Cut E (RT E.toTys [(false, .bool)])) := []
theorem slices_ContainsFunc52_c85.ok (k : Nat) : Okf (XR E) Try.prog 52 (slices_ContainsFunc52_c85.sig k) := ⟨fn_ok (C := fun k => tab.ctx fun f => lk f (slices_ContainsFunc52_c85.calls k)) (fun k => tie _) k (fun j hj => calls_ok (kc (slices_IndexFunc77_c85.ok j) (kn))) 400 Try.func52 (body := slices_ContainsFunc52_c85.body) (res := [.tmp 4]) rfl (by kernel_rfl) slices_ContainsFunc52_c85.cuts (kn) (fun x => by kernel_rfl), _, Try.func52, by kernel_rfl, by kernel_rfl⟩
/-! ### steeple/weave.of: function 69 -/
def weave_of.f (k : Nat) (a0 : Int) (a1 : List S34) : Option Bool := (slices_ContainsFunc52_c85.f k a1 a0).bind fun r0 => some (!r0)
def weave_of.sig (k : Nat) : Sig E.toTys := ⟨[.int .i64, .slice (.st 0)], [(false, .bool)], none, fun x => f k x.1 x.2.1⟩
noncomputable def weave_of.body : Code := Try.f69.body.getD .skip
def weave_of.calls (k : Nat) : List (Nat × Sig E.toTys) := [(52, slices_ContainsFunc52_c85.sig k)]
def weave_of.cuts : List (Cut E (RT E.toTys [(false, .bool)])) := []
theorem weave_of.ok (k : Nat) : Okf (XR E) Try.prog 69 (weave_of.sig k) := ⟨fn_ok (C := fun k => tab.ctx fun f => lk f (weave_of.calls k)) (fun k => tie _) k (fun j hj => calls_ok (kc (slices_ContainsFunc52_c85.ok j) (kn))) 400 Try.func69 (body := weave_of.body) (res := [.tmp 4]) rfl (by kernel_rfl) weave_of.cuts (kn) (fun x => by kernel_rfl), _, Try.func69, by kernel_rfl, by kernel_rfl⟩
/-! ### steeple/weave.up: function 70 -/
def weave_up.f (k : Nat) (a0 : S34) (a1 : Int) : Option S34 := if a1 = 0 then some a0 else if a1 ≥ 64 then (if 0 ≤ wrap64 (a1 - 64) then some (⟨shl .u64 a0.f1 (wrap64 (a1 - 64)), 0⟩ : S34) else none) else if 0 ≤ a1 then (if 0 ≤ wrap64 (64 - a1) then (if 0 ≤ a1 then some (⟨bits .or .u64 (shl .u64 a0.f0 a1) (shr .u64 a0.f1 (wrap64 (64 - a1))), shl .u64 a0.f1 a1⟩ : S34) else none) else none) else none
def weave_up.sig (k : Nat) : Sig E.toTys := ⟨[.st 0, .int .i64], [(false, .st 0)], none, fun x => f k x.1 x.2.1⟩
noncomputable def weave_up.body : Code := Try.f70.body.getD .skip
def weave_up.calls (k : Nat) : List (Nat × Sig E.toTys) := []
def weave_up.cuts : List (Cut E (RT E.toTys [(false, .st 0)])) := []
theorem weave_up.ok (k : Nat) : Okf (XR E) Try.prog 70 (weave_up.sig k) := ⟨fn_ok (C := fun k => tab.ctx fun f => lk f (weave_up.calls k)) (fun k => tie _) k (fun j hj => calls_ok (kn)) 400 Try.func70 (body := weave_up.body) (res := [.cell 4 34]) rfl (by kernel_rfl) weave_up.cuts (kn) (fun x => by kernel_rfl), _, Try.func70, by kernel_rfl, by kernel_rfl⟩
/-! ### steeple/weave.Gather: function 42 -/
mutual
def weave_Gather.l11 : Nat → Int → Int → List S34 → Int → Int → List S34 → Option ((List S34) × Int)
  | 0, _, _, _, _, _, _ => none
  | k + 1, x0, x1, x2, x3, x4, x5 => if x4 < x3 then (if 0 ≤ x4 then (if x4 < (x2.length : Int) then (if x1 = 0 then none else if Int.tmod x4 x1 = 0 then (if x5.length + [(⟨0, 0⟩ : S34)].length ≤ 140737488355328 / 16 then weave_Gather.j15 k x0 x1 x4 x2 x3 x4 (x5 ++ [(⟨0, 0⟩ : S34)]) (rd34 x2 x4).f0 (rd34 x2 x4).f1 else none) else weave_Gather.j15 k x0 x1 x4 x2 x3 x4 x5 (rd34 x2 x4).f0 (rd34 x2 x4).f1) else none) else none) else some (x5, 0)
def weave_Gather.j15 : Nat → Int → Int → Int → List S34 → Int → Int → List S34 → Int → Int → Option ((List S34) × Int)
  | 0, _, _, _, _, _, _, _, _, _ => none
  | k + 1, x0, x1, x2, x3, x4, x5, x6, x7, x8 => if 0 ≤ wrap64 ((x6.length : Int) - 1) then (if wrap64 ((x6.length : Int) - 1) < (x6.length : Int) then (if x1 = 0 then none else if 0 ≤ x0 then ((weave_up.f k (⟨x7, x8⟩ : S34) (shl .i64 (Int.tmod x2 x1) x0)).bind fun r2 => (tower_Add.f k (rd34 x6 (wrap64 ((x6.length : Int) - 1))) r2).bind fun r3 => if 0 ≤ wrap64 ((x6.length : Int) - 1) then (if wrap64 ((x6.length : Int) - 1) < (x6.length : Int) then weave_Gather.l11 k x0 x1 x3 x4 (wrap64 (x5 + 1)) (x6.set (Int.toNat (wrap64 ((x6.length : Int) - 1))) r3) else none) else none) else none) else none) else none
end
def weave_Gather.f (k : Nat) (a0 : Int) (a1 : Int) (a2 : List S34) : Option ((List S34) × Int) := (weave_ask.f k a0 a1).bind fun r0 => if r0 = 0 then (if 0 ≤ wrap64 (a1 - a0) then (if shl .i64 1 (wrap64 (a1 - a0)) = 0 then none else if Int.tmod (a2.length : Int) (shl .i64 1 (wrap64 (a1 - a0))) = 0 then ((weave_of.f k a0 a2).bind fun r1 => if (!r1) = true then some ([], 5) else weave_Gather.l11 k a0 (shl .i64 1 (wrap64 (a1 - a0))) a2 (a2.length : Int) 0 []) else some ([], 6)) else none) else some ([], r0)
def weave_Gather.sig (k : Nat) : Sig E.toTys := ⟨[.int .i64, .int .i64, .slice (.st 0)], [(true, .slice (.st 0)), (false, .int .i64)], none, fun x => f k x.1 x.2.1 x.2.2.1⟩
noncomputable def weave_Gather.body : Code := Try.f42.body.getD .skip
def weave_Gather.calls (k : Nat) : List (Nat × Sig E.toTys) := [(68, weave_ask.sig k), (69, weave_of.sig k), (70, weave_up.sig k), (18, tower_Add.sig k)]
def weave_Gather.cuts : List (Cut E (RT E.toTys [(true, .slice (.st 0)), (false, .int .i64)])) := [⟨true, 11, ⟨cat [.one (.val (.int .i64))] (cat (ds 8) (cat [.one (.val (.int .i64)), .one (.ref 0)] (cat (ds 24) (cat [.one (.val (.slice (.st 0))), .one (.val (.int .i64)), .one (.val (.int .i64))] (ds 32))))), [.arr (.st 0)], false⟩, fun k x => weave_Gather.l11 k x.1.1 x.1.2.1 x.1.2.2.1 x.1.2.2.2.1 x.1.2.2.2.2.1 x.2.1⟩,
  ⟨false, 15, ⟨cat [.one (.val (.int .i64))] (cat (ds 8) (cat [.one (.val (.int .i64)), .one (.ref 0), .one (.val (.int .i64)), .one (.ptr 1 0)] (cat (ds 22) (cat [.one (.val (.slice (.st 0))), .one (.val (.int .i64)), .one (.val (.int .i64))] (ds 32))))), [.arr (.st 0), .var [.val (.int .u64), .val (.int .u64)]], false⟩, fun k x => weave_Gather.j15 k x.1.1 x.1.2.1 x.1.2.2.1 x.1.2.2.2.1 x.1.2.2.2.2.1 x.1.2.2.2.2.2.1 x.2.1 x.2.2.1.1 x.2.2.1.2.1⟩]
theorem weave_Gather.ok (k : Nat) : Okf (XR E) Try.prog 42 (weave_Gather.sig k) := ⟨fn_ok (C := fun k => tab.ctx fun f => lk f (weave_Gather.calls k)) (fun k => tie _) k (fun j hj => calls_ok (kc (weave_ask.ok j) (kc (weave_of.ok j) (kc (weave_up.ok j) (kc (tower_Add.ok j) (kn)))))) 400 Try.func42 (body := weave_Gather.body) (res := [.tmp 6, .tmp 7]) rfl (by kernel_rfl) weave_Gather.cuts (kc ⟨by kernel_rfl, rfl, fun _ => rfl, fun _ _ => by kernel_rfl⟩ (kc ⟨by kernel_rfl, rfl, fun _ => rfl, fun _ _ => by kernel_rfl⟩ (kn))) (fun x => by kernel_rfl), _, Try.func42, by kernel_rfl, by kernel_rfl⟩
/-! ### steeple/weave.Bits: function 23 -/
def weave_Bits.l3 : Nat → Int → List Bool → Int → Int → List S34 → Option ((List S34) × Int)
  | 0, _, _, _, _, _ => none
  | k + 1, x0, x1, x2, x3, x4 => if x3 < x2 then (if 0 ≤ x3 then (if x3 < (x1.length : Int) then (if (rdB x1 x3) = true then ((tower_One.f k).bind fun r0 => if x4.length + [r0].length ≤ 140737488355328 / 16 then weave_Bits.l3 k x0 x1 x2 (wrap64 (x3 + 1)) (x4 ++ [r0]) else none) else if x4.length + [(⟨0, 0⟩ : S34)].length ≤ 140737488355328 / 16 then weave_Bits.l3 k x0 x1 x2 (wrap64 (x3 + 1)) (x4 ++ [(⟨0, 0⟩ : S34)]) else none) else none) else none) else (weave_Gather.f k 0 x0 x4).bind fun r1 => some (r1.1, r1.2)
def weave_Bits.f (k : Nat) (a0 : Int) (a1 : List Bool) : Option ((List S34) × Int) := weave_Bits.l3 k a0 a1 (a1.length : Int) 0 []
def weave_Bits.sig (k : Nat) : Sig E.toTys := ⟨[.int .i64, .slice .bool], [(true, .slice (.st 0)), (false, .int .i64)], none, fun x => f k x.1 x.2.1⟩
noncomputable def weave_Bits.body : Code := Try.f23.body.getD .skip
def weave_Bits.calls (k : Nat) : List (Nat × Sig E.toTys) := [(11, tower_One.sig k), (42, weave_Gather.sig k)]
def weave_Bits.cuts : List (Cut E (RT E.toTys [(true, .slice (.st 0)), (false, .int .i64)])) := [⟨true, 3, ⟨cat [.one (.val (.int .i64))] (cat (ds 5) (cat [.one (.ref 0)] (cat (ds 3) (cat [.one (.val (.slice .bool)), .one (.val (.int .i64)), .one (.val (.int .i64))] (ds 16))))), [.arr (.st 0)], false⟩, fun k x => weave_Bits.l3 k x.1.1 x.1.2.1 x.1.2.2.1 x.1.2.2.2.1 x.2.1⟩]
theorem weave_Bits.ok (k : Nat) : Okf (XR E) Try.prog 23 (weave_Bits.sig k) := ⟨fn_ok (C := fun k => tab.ctx fun f => lk f (weave_Bits.calls k)) (fun k => tie _) k (fun j hj => calls_ok (kc (tower_One.ok j) (kc (weave_Gather.ok j) (kn)))) 400 Try.func23 (body := weave_Bits.body) (res := [.tmp 4, .tmp 5]) rfl (by kernel_rfl) weave_Bits.cuts (kc ⟨by kernel_rfl, rfl, fun _ => rfl, fun _ _ => by kernel_rfl⟩ (kn)) (fun x => by kernel_rfl), _, Try.func23, by kernel_rfl, by kernel_rfl⟩
/-! ### steeple/ring.Pack: function 6 -/
def ring_Pack.f (k : Nat) (a0 : Int) (a1 : List Bool) : Option ((List S34) × Int) := (ring_ask.f k a0 a1).bind fun r0 => if r0 = 0 then ((weave_Bits.f k a0 a1).bind fun r1 => some (r1.1, r1.2)) else some ([], r0)
def ring_Pack.sig (k : Nat) : Sig E.toTys := ⟨[.int .i64, .slice .bool], [(true, .slice (.st 0)), (false, .int .i64)], none, fun x => f k x.1 x.2.1⟩
noncomputable def ring_Pack.body : Code := Try.f6.body.getD .skip
def ring_Pack.calls (k : Nat) : List (Nat × Sig E.toTys) := [(22, ring_ask.sig k), (23, weave_Bits.sig k)]
def ring_Pack.cuts : List (Cut E (RT E.toTys [(true, .slice (.st 0)), (false, .int .i64)])) := []
theorem ring_Pack.ok (k : Nat) : Okf (XR E) Try.prog 6 (ring_Pack.sig k) := ⟨fn_ok (C := fun k => tab.ctx fun f => lk f (ring_Pack.calls k)) (fun k => tie _) k (fun j hj => calls_ok (kc (ring_ask.ok j) (kc (weave_Bits.ok j) (kn)))) 400 Try.func6 (body := ring_Pack.body) (res := [.tmp 4, .tmp 5]) rfl (by kernel_rfl) ring_Pack.cuts (kn) (fun x => by kernel_rfl), _, Try.func6, by kernel_rfl, by kernel_rfl⟩
/-! ### steeple/span.within$1: function 71 -/
def span_within_1.f (k : Nat) (a0 : S34) (a1 : Option Int) : Option Bool := (span_lead.f k a0).bind fun r0 => (match a1 with | none => none | some r1 => some (decide (r0 ≥ r1)))
def span_within_1.sig (k : Nat) : Sig E.toTys := ⟨[.st 0, .ptr (.int .i64)], [(false, .bool)], none, fun x => f k x.1 x.2.1⟩
noncomputable def span_within_1.body : Code := Try.f71.body.getD .skip
def span_within_1.calls (k : Nat) : List (Nat × Sig E.toTys) := [(50, span_lead.sig k)]
def span_within_1.cuts : List (Cut E (RT E.toTys [(false, .bool)])) := []
theorem span_within_1.ok (k : Nat) : Okf (XR E) Try.prog 71 (span_within_1.sig k) := ⟨fn_ok (C := fun k => tab.ctx fun f => lk f (span_within_1.calls k)) (fun k => tie _) k (fun j hj => calls_ok (kc (span_lead.ok j) (kn))) 400 Try.func71 (body := span_within_1.body) (res := [.tmp 3]) rfl (by kernel_rfl) span_within_1.cuts (kn) (fun x => by kernel_rfl), _, Try.func71, by kernel_rfl, by kernel_rfl⟩
/-! ### slices.IndexFunc: function 77 -/
def slices_IndexFunc77_c71.l2 : Nat → List S34 → Int → Int → Int → Option Int
  | 0, _, _, _, _ => none
  | k + 1, x0, x1, x2, x3 => if x3 < x2 then (if 0 ≤ x3 then (if x3 < (x0.length : Int) then ((span_within_1.f k (rd34 x0 x3) (some x1)).bind fun r0 => if r0 = true then some x3 else slices_IndexFunc77_c71.l2 k x0 x1 x2 (wrap64 (x3 + 1))) else none) else none) else some (-1)
def slices_IndexFunc77_c71.f (k : Nat) (a0 : List S34) (a1 : Int) : Option Int := slices_IndexFunc77_c71.l2 k a0 a1 (a0.length : Int) 0
def slices_IndexFunc77_c71.sig (k : Nat) : Sig E.toTys := ⟨[.slice (.st 0), .ext 71 (.int .i64)], [(false, .int .i64)], none, fun x => f k x.1 x.2.1⟩
noncomputable def slices_IndexFunc77_c71.body : Code := Try.f77.body.getD .skip
def slices_IndexFunc77_c71.calls (k : Nat) : List (Nat × Sig E.toTys) := [(71, span_within_1.sig k)]
def slices_IndexFunc77_c71.cuts : List (Cut E (RT E.toTys [(false, .int .i64)])) := [⟨true, 2, ⟨cat [.one (.val (.slice (.st 0))), .one (.val (.ext 71 (.int .i64)))] (cat (ds 5) (cat [.one (.val (.int .i64)), .one (.val (.int .i64))] (ds 10))), [], false⟩, fun k x => slices_IndexFunc77_c71.l2 k x.1.1 x.1.2.1 x.1.2.2.1 x.1.2.2.2.1⟩]
theorem slices_IndexFunc77_c71.ok (k : Nat) : Okf (XR E) Try.prog 77 (slices_IndexFunc77_c71.sig k) := ⟨fn_ok (C := fun k => tab.ctx fun f => lk f (slices_IndexFunc77_c71.calls k)) (fun k => tie _) k (fun j hj => calls_ok (kc (span_within_1.ok j) (kn))) 400 Try.func77 (body := slices_IndexFunc77_c71.body) (res := [.tmp 4]) rfl (by kernel_rfl) slices_IndexFunc77_c71.cuts (kc ⟨by kernel_rfl, rfl, fun _ => rfl, fun _ _ => by kernel_rfl⟩ (kn)) (fun x => by kernel_rfl), _, Try.func77, by kernel_rfl, by kernel_rfl⟩
/-! ### slices.ContainsFunc: function 52 -/
def slices_ContainsFunc52_c71.f (k : Nat) (a0 : List S34) (a1 : Int) : Option Bool := (slices_IndexFunc77_c71.f k a0 a1).bind fun r0 => some (decide (r0 ≥ 0))
def slices_ContainsFunc52_c71.sig (k : Nat) : Sig E.toTys := ⟨[.slice (.st 0), .ext 71 (.int .i64)], [(false, .bool)], none, fun x => f k x.1 x.2.1⟩
noncomputable def slices_ContainsFunc52_c71.body : Code := Try.f52.body.getD .skip
def slices_ContainsFunc52_c71.calls (k : Nat) : List (Nat × Sig E.toTys) := [(77, slices_IndexFunc77_c71.sig k)]
def slices_ContainsFunc52_c71.cuts : List (Cut E (RT E.toTys [(false, .bool)])) := []
theorem slices_ContainsFunc52_c71.ok (k : Nat) : Okf (XR E) Try.prog 52 (slices_ContainsFunc52_c71.sig k) := ⟨fn_ok (C := fun k => tab.ctx fun f => lk f (slices_ContainsFunc52_c71.calls k)) (fun k => tie _) k (fun j hj => calls_ok (kc (slices_IndexFunc77_c71.ok j) (kn))) 400 Try.func52 (body := slices_ContainsFunc52_c71.body) (res := [.tmp 4]) rfl (by kernel_rfl) slices_ContainsFunc52_c71.cuts (kn) (fun x => by kernel_rfl), _, Try.func52, by kernel_rfl, by kernel_rfl⟩
/-! ### steeple/span.within: function 43 -/
def span_within.f (k : Nat) (a0 : List S34) (a1 : Int) : Option Bool := (slices_ContainsFunc52_c71.f k a0 a1).bind fun r0 => some (!r0)
def span_within.sig (k : Nat) : Sig E.toTys := ⟨[.slice (.st 0), .int .i64], [(false, .bool)], none, fun x => f k x.1 x.2.1⟩
noncomputable def span_within.body : Code := Try.f43.body.getD .skip
def span_within.calls (k : Nat) : List (Nat × Sig E.toTys) := [(52, slices_ContainsFunc52_c71.sig k)]
def span_within.cuts : List (Cut E (RT E.toTys [(false, .bool)])) := []
theorem span_within.ok (k : Nat) : Okf (XR E) Try.prog 43 (span_within.sig k) := ⟨fn_ok (C := fun k => tab.ctx fun f => lk f (span_within.calls k)) (fun k => tie _) k (fun j hj => calls_ok (kc (slices_ContainsFunc52_c71.ok j) (kn))) 400 Try.func43 (body := span_within.body) (res := [.tmp 4]) rfl (by kernel_rfl) span_within.cuts (kn) (fun x => by kernel_rfl), _, Try.func43, by kernel_rfl, by kernel_rfl⟩
/-! ### steeple/span.flip: function 73 -/
def span_flip.l1 : Nat → List Bool → Int → Int → List Bool → Option (List Bool)
  | 0, _, _, _, _ => none
  | k + 1, x0, x1, x2, x3 => if x2 < x1 then (if 0 ≤ x2 then (if x2 < (x3.length : Int) then (if 0 ≤ x2 then (if x2 < (x0.length : Int) then (if 0 ≤ x2 then (if x2 < (x3.length : Int) then span_flip.l1 k x0 x1 (wrap64 (x2 + 1)) (x3.set (Int.toNat x2) (!decide ((rdB x3 x2) = (rdB x0 x2)))) else none) else none) else none) else none) else none) else none) else some x3
def span_flip.f (k : Nat) (a0 : List Bool) (a1 : List Bool) : Option (List Bool) := span_flip.l1 k a1 (a0.length : Int) 0 a0
def span_flip.sig (k : Nat) : Sig E.toTys := ⟨[.slice .bool, .slice .bool], [(true, .slice .bool)], some 0, fun x => f k x.1 x.2.1⟩
noncomputable def span_flip.body : Code := Try.f73.body.getD .skip
def span_flip.calls (k : Nat) : List (Nat × Sig E.toTys) := []
def span_flip.cuts : List (Cut E (RT E.toTys [(true, .slice .bool)])) := [⟨true, 1, ⟨cat [.one (.ref 0), .one (.val (.slice .bool))] (cat (ds 4) (cat [.one (.val (.int .i64)), .one (.val (.int .i64))] (ds 15))), [.arr (.bool)], true⟩, fun k x => span_flip.l1 k x.1.1 x.1.2.1 x.1.2.2.1 x.2.1⟩]
theorem span_flip.ok (k : Nat) : Okf (XR E) Try.prog 73 (span_flip.sig k) := ⟨fn_okIO (C := fun k => tab.ctx fun f => lk f (span_flip.calls k)) (fun k => tie _) k (fun j hj => calls_ok (kn)) 400 0 Try.func73 (body := span_flip.body) (res := []) rfl (by kernel_rfl) span_flip.cuts (kc ⟨by kernel_rfl, rfl, fun _ => rfl, fun _ _ => by kernel_rfl⟩ (kn)) (fun x => by kernel_rfl), _, Try.func73, by kernel_rfl, by kernel_rfl⟩
/-! ### steeple/span.Solve: function 44 -/
mutual
def span_Solve.l3 : Nat → List S34 → List S34 → Int → Int → Int → Int → List S105 → Option ((List Bool) × Bool)
  | 0, _, _, _, _, _, _, _ => none
  | k + 1, x0, x1, x2, x3, x4, x5, x6 => if x3 < x2 then (if 0 ≤ x3 then (if x3 < (x1.length : Int) then (if 0 ≤ (x0.length : Int) then (if (x0.length : Int) ≤ 140737488355328 / ((1 : Nat) : Int) then (if 0 ≤ x3 then (if x3 < ((List.replicate (Int.toNat (x0.length : Int)) false).length : Int) then span_Solve.l8 k x0 x1 x2 x3 (x6.length : Int) 0 x4 x5 x6 (rd34 x1 x3).f0 (rd34 x1 x3).f1 ((List.replicate (Int.toNat (x0.length : Int)) false).set (Int.toNat x3) true) else none) else none) else none) else none) else none) else none) else if 0 ≤ (x0.length : Int) then (if (x0.length : Int) ≤ 140737488355328 / ((1 : Nat) : Int) then span_Solve.l19 k (x6.length : Int) 0 x4 x5 (List.replicate (Int.toNat (x0.length : Int)) false) x6 else none) else none
def span_Solve.l8 : Nat → List S34 → List S34 → Int → Int → Int → Int → Int → Int → List S105 → Int → Int → List Bool → Option ((List Bool) × Bool)
  | 0, _, _, _, _, _, _, _, _, _, _, _, _ => none
  | k + 1, x0, x1, x2, x3, x4, x5, x6, x7, x8, x9, x10, x11 => if x5 < x4 then (if 0 ≤ x5 then (if x5 < (x8.length : Int) then ((span_lead.f k (rd105 x8 x5).f0).bind fun r0 => (span_has.f k (⟨x9, x10⟩ : S34) r0).bind fun r1 => if r1 = true then ((tower_Add.f k (⟨x9, x10⟩ : S34) (rd105 x8 x5).f0).bind fun r2 => (span_flip.f k x11 (rd105 x8 x5).f1).bind fun r3 => span_Solve.l8 k x0 x1 x2 x3 x4 (wrap64 (x5 + 1)) x6 x7 x8 r2.f0 r2.f1 r3) else span_Solve.l8 k x0 x1 x2 x3 x4 (wrap64 (x5 + 1)) x6 x7 x8 x9 x10 x11) else none) else none) else if x9 = 0 ∧ x10 = 0 then span_Solve.l3 k x0 x1 x2 (wrap64 (x3 + 1)) x6 x7 x8 else if x8.length + [(⟨(⟨x9, x10⟩ : S34), x11⟩ : S105)].length ≤ 140737488355328 / 40 then span_Solve.l3 k x0 x1 x2 (wrap64 (x3 + 1)) x6 x7 (x8 ++ [(⟨(⟨x9, x10⟩ : S34), x11⟩ : S105)]) else none
def span_Solve.l19 : Nat → Int → Int → Int → Int → List Bool → List S105 → Option ((List Bool) × Bool)
  | 0, _, _, _, _, _, _ => none
  | k + 1, x0, x1, x2, x3, x4, x5 => if x1 < x0 then (if 0 ≤ x1 then (if x1 < (x5.length : Int) then ((span_lead.f k (rd105 x5 x1).f0).bind fun r4 => (span_has.f k (⟨x2, x3⟩ : S34) r4).bind fun r5 => if r5 = true then ((tower_Add.f k (⟨x2, x3⟩ : S34) (rd105 x5 x1).f0).bind fun r6 => (span_flip.f k x4 (rd105 x5 x1).f1).bind fun r7 => span_Solve.l19 k x0 (wrap64 (x1 + 1)) r6.f0 r6.f1 r7 x5) else span_Solve.l19 k x0 (wrap64 (x1 + 1)) x2 x3 x4 x5) else none) else none) else if x2 = 0 ∧ x3 = 0 then some (x4, true) else some ([], false)
end
def span_Solve.f (k : Nat) (a0 : List S34) (a1 : S34) : Option ((List Bool) × Bool) := span_Solve.l3 k a0 a0 (a0.length : Int) 0 a1.f0 a1.f1 []
def span_Solve.sig (k : Nat) : Sig E.toTys := ⟨[.slice (.st 0), .st 0], [(true, .slice .bool), (false, .bool)], none, fun x => f k x.1 x.2.1⟩
noncomputable def span_Solve.body : Code := Try.f44.body.getD .skip
def span_Solve.calls (k : Nat) : List (Nat × Sig E.toTys) := [(50, span_lead.sig k), (72, span_has.sig k), (18, tower_Add.sig k), (73, span_flip.sig k)]
def span_Solve.cuts : List (Cut E (RT E.toTys [(true, .slice .bool), (false, .bool)])) := [⟨true, 3, ⟨cat [.one (.val (.slice (.st 0)))] (cat (ds 2) (cat [.one (.ptr 0 0)] (cat (ds 2) (cat [.one (.ref 1)] (cat (ds 8) (cat [.one (.val (.slice (.st 0))), .one (.val (.int .i64)), .one (.val (.int .i64))] (ds 73))))))), [.var [.val (.int .u64), .val (.int .u64)], .arr (.st 3)], false⟩, fun k x => span_Solve.l3 k x.1.1 x.1.2.1 x.1.2.2.1 x.1.2.2.2.1 x.2.1.1 x.2.1.2.1 x.2.2.1⟩,
  ⟨true, 8, ⟨cat [.one (.val (.slice (.st 0)))] (cat (ds 2) (cat [.one (.ptr 0 0)] (cat (ds 2) (cat [.one (.ref 1)] (cat (ds 2) (cat [.one (.ptr 2 0)] (cat (ds 5) (cat [.one (.val (.slice (.st 0))), .one (.val (.int .i64)), .one (.val (.int .i64))] (cat (ds 13) (cat [.one (.ref 1), .one (.val (.int .i64)), .one (.val (.int .i64))] (ds 57))))))))))), [.var [.val (.int .u64), .val (.int .u64)], .arr (.st 3), .var [.val (.int .u64), .val (.int .u64), .ref 3], .arr (.bool)], false⟩, fun k x => span_Solve.l8 k x.1.1 x.1.2.1 x.1.2.2.1 x.1.2.2.2.1 x.1.2.2.2.2.1 x.1.2.2.2.2.2.1 x.2.1.1 x.2.1.2.1 x.2.2.1 x.2.2.2.1.1 x.2.2.2.1.2.1 x.2.2.2.2.1⟩,
  ⟨true, 19, ⟨cat (ds 3) (cat [.one (.ptr 0 0)] (cat (ds 8) (cat [.one (.ref 1)] (cat (ds 54) (cat [.one (.ref 2), .one (.val (.int .i64)), .one (.val (.int .i64))] (ds 21)))))), [.var [.val (.int .u64), .val (.int .u64)], .arr (.bool), .arr (.st 3)], false⟩, fun k x => span_Solve.l19 k x.1.1 x.1.2.1 x.2.1.1 x.2.1.2.1 x.2.2.1 x.2.2.2.1⟩]
theorem span_Solve.ok (k : Nat) : Okf (XR E) Try.prog 44 (span_Solve.sig k) := ⟨fn_ok (C := fun k => tab.ctx fun f => lk f (span_Solve.calls k)) (fun k => tie _) k (fun j hj => calls_ok (kc (span_lead.ok j) (kc (span_has.ok j) (kc (tower_Add.ok j) (kc (span_flip.ok j) (kn)))))) 400 Try.func44 (body := span_Solve.body) (res := [.tmp 4, .tmp 5]) rfl (by kernel_rfl) span_Solve.cuts (kc ⟨by kernel_rfl, rfl, fun _ => rfl, fun _ _ => by kernel_rfl⟩ (kc ⟨by kernel_rfl, rfl, fun _ => rfl, fun _ _ => by kernel_rfl⟩ (kc ⟨by kernel_rfl, rfl, fun _ => rfl, fun _ _ => by kernel_rfl⟩ (kn)))) (fun x => by kernel_rfl), _, Try.func44, by kernel_rfl, by kernel_rfl⟩
/-! ### steeple/span.Back: function 25 -/
mutual
def span_Back.l7 : Nat → List S34 → Int → Int → List S34 → Option ((List S34) × Int)
  | 0, _, _, _, _ => none
  | k + 1, x0, x1, x2, x3 => if x2 < x1 then ((tower_Bit.f k x2).bind fun r1 => (span_Solve.f k x0 r1).bind fun r2 => if (!r2.2) = true then some ([], 7) else span_Back.l14 k x0 x1 x2 (r2.1.length : Int) 0 x3 0 0 r2.1) else some (x3, 0)
def span_Back.l14 : Nat → List S34 → Int → Int → Int → Int → List S34 → Int → Int → List Bool → Option ((List S34) × Int)
  | 0, _, _, _, _, _, _, _, _, _ => none
  | k + 1, x0, x1, x2, x3, x4, x5, x6, x7, x8 => if x4 < x3 then (if 0 ≤ x4 then (if x4 < (x8.length : Int) then (if (rdB x8 x4) = true then ((tower_Bit.f k x4).bind fun r3 => (tower_Add.f k (⟨x6, x7⟩ : S34) r3).bind fun r4 => span_Back.l14 k x0 x1 x2 x3 (wrap64 (x4 + 1)) x5 r4.f0 r4.f1 x8) else span_Back.l14 k x0 x1 x2 x3 (wrap64 (x4 + 1)) x5 x6 x7 x8) else none) else none) else if x5.length + [(⟨x6, x7⟩ : S34)].length ≤ 140737488355328 / 16 then span_Back.l7 k x0 x1 (wrap64 (x2 + 1)) (x5 ++ [(⟨x6, x7⟩ : S34)]) else none
end
def span_Back.f (k : Nat) (a0 : List S34) : Option ((List S34) × Int) := if (a0.length : Int) > 128 then some ([], 1) else (span_within.f k a0 (a0.length : Int)).bind fun r0 => if (!r0) = true then some ([], 6) else span_Back.l7 k a0 (a0.length : Int) 0 []
def span_Back.sig (k : Nat) : Sig E.toTys := ⟨[.slice (.st 0)], [(true, .slice (.st 0)), (false, .int .i64)], none, fun x => f k x.1⟩
noncomputable def span_Back.body : Code := Try.f25.body.getD .skip
def span_Back.calls (k : Nat) : List (Nat × Sig E.toTys) := [(43, span_within.sig k), (19, tower_Bit.sig k), (44, span_Solve.sig k), (18, tower_Add.sig k)]
def span_Back.cuts : List (Cut E (RT E.toTys [(true, .slice (.st 0)), (false, .int .i64)])) := [⟨true, 7, ⟨cat [.one (.val (.slice (.st 0)))] (cat (ds 3) (cat [.one (.ref 0)] (cat (ds 17) (cat [.one (.val (.int .i64)), .one (.val (.int .i64))] (ds 30))))), [.arr (.st 0)], false⟩, fun k x => span_Back.l7 k x.1.1 x.1.2.1 x.1.2.2.1 x.2.1⟩,
  ⟨true, 14, ⟨cat [.one (.val (.slice (.st 0)))] (cat (ds 3) (cat [.one (.ref 0)] (cat (ds 3) (cat [.one (.ptr 1 0)] (cat (ds 13) (cat [.one (.val (.int .i64)), .one (.val (.int .i64))] (cat (ds 11) (cat [.one (.ref 2), .one (.val (.int .i64)), .one (.val (.int .i64))] (ds 16))))))))), [.arr (.st 0), .var [.val (.int .u64), .val (.int .u64)], .arr (.bool)], false⟩, fun k x => span_Back.l14 k x.1.1 x.1.2.1 x.1.2.2.1 x.1.2.2.2.1 x.1.2.2.2.2.1 x.2.1 x.2.2.1.1 x.2.2.1.2.1 x.2.2.2.1⟩]
theorem span_Back.ok (k : Nat) : Okf (XR E) Try.prog 25 (span_Back.sig k) := ⟨fn_ok (C := fun k => tab.ctx fun f => lk f (span_Back.calls k)) (fun k => tie _) k (fun j hj => calls_ok (kc (span_within.ok j) (kc (tower_Bit.ok j) (kc (span_Solve.ok j) (kc (tower_Add.ok j) (kn)))))) 400 Try.func25 (body := span_Back.body) (res := [.tmp 2, .tmp 3]) rfl (by kernel_rfl) span_Back.cuts (kc ⟨by kernel_rfl, rfl, fun _ => rfl, fun _ _ => by kernel_rfl⟩ (kc ⟨by kernel_rfl, rfl, fun _ => rfl, fun _ _ => by kernel_rfl⟩ (kn))) (fun x => by kernel_rfl), _, Try.func25, by kernel_rfl, by kernel_rfl⟩
/-! ### steeple/frob.fits: function 26 -/
def frob_fits.f (k : Nat) (a0 : Int) (a1 : Int) (a2 : S34) : Option Bool := (octet_Of.f k a0 a2).bind fun r0 => if r0 = true then (if a1 ≥ 0 then some (decide (a1 ≤ a0)) else some false) else some false
def frob_fits.sig (k : Nat) : Sig E.toTys := ⟨[.int .i64, .int .i64, .st 0], [(false, .bool)], none, fun x => f k x.1 x.2.1 x.2.2.1⟩
noncomputable def frob_fits.body : Code := Try.f26.body.getD .skip
def frob_fits.calls (k : Nat) : List (Nat × Sig E.toTys) := [(28, octet_Of.sig k)]
def frob_fits.cuts : List (Cut E (RT E.toTys [(false, .bool)])) := []
theorem frob_fits.ok (k : Nat) : Okf (XR E) Try.prog 26 (frob_fits.sig k) := ⟨fn_ok (C := fun k => tab.ctx fun f => lk f (frob_fits.calls k)) (fun k => tie _) k (fun j hj => calls_ok (kc (octet_Of.ok j) (kn))) 400 Try.func26 (body := frob_fits.body) (res := [.tmp 6]) rfl (by kernel_rfl) frob_fits.cuts (kn) (fun x => by kernel_rfl), _, Try.func26, by kernel_rfl, by kernel_rfl⟩
/-! ### steeple/frob.conjugates: function 27 -/
def frob_conjugates.f (k : Nat) (a0 : Int) (a1 : Int) (a2 : S34) : Option (Int × Int × S34 × Unit) := some (a0, a1, a2, ())
def frob_conjugates.csig (k : Nat) : CloSig E.toTys := ⟨[.int .i64, .int .i64, .st 0], 45, .int .i64, [.int .i64, .st 0], fun x => frob_conjugates.f k x.1 x.2.1 x.2.2.1⟩
noncomputable def frob_conjugates.body : Code := Try.f27.body.getD .skip
def frob_conjugates.calls (k : Nat) : List (Nat × Sig E.toTys) := []
theorem frob_conjugates.okc (k : Nat) : Okc (XR E) Try.prog 27 (frob_conjugates.csig k) := ⟨fn_okC (C := fun k => tab.ctx fun f => lk f (frob_conjugates.calls k)) (fun k => tie _) k (fun j hj => calls_ok (kn)) 400 Try.func27 (body := frob_conjugates.body) (res := [.tmp 6]) rfl (by kernel_rfl) [] kn (fun x => by kernel_rfl), _, Try.func27, by kernel_rfl, by kernel_rfl⟩
/-! ### steeple/frob.Trace: function 9 -/
def frob_Trace.f (k : Nat) (a0 : Int) (a1 : Int) (a2 : S34) : Option S34 := (frob_fits.f k a0 a1 a2).bind fun r0 => if (!r0) = true then some (⟨0, 0⟩ : S34) else (frob_conjugates.f k a0 a1 a2).bind fun r1 => none
def frob_Trace.sig (k : Nat) : Sig E.toTys := ⟨[.int .i64, .int .i64, .st 0], [(false, .st 0)], none, fun x => f k x.1 x.2.1 x.2.2.1⟩
noncomputable def frob_Trace.body : Code := Try.f9.body.getD .skip
def frob_Trace.clos (k : Nat) : List (Nat × CloSig E.toTys) := [(27, frob_conjugates.csig k)]
def frob_Trace.calls (k : Nat) : List (Nat × Sig E.toTys) := [(26, frob_fits.sig k)]
def frob_Trace.cuts : List (Cut E (RT E.toTys [(false, .st 0)])) := []
theorem frob_Trace.ok (k : Nat) : Okf (XR E) Try.prog 9 (frob_Trace.sig k) := ⟨fn_ok (C := fun k => (tab.ctx fun f => lk f (frob_Trace.calls k)).cl (frob_Trace.clos k)) (fun k => (tie _).cl _) k (fun j hj => (calls_ok (kc (frob_fits.ok j) (kn))).cl (kc (frob_conjugates.okc j) (kn))) 400 Try.func9 (body := frob_Trace.body) (res := [.cell 6 34]) rfl (by kernel_rfl) frob_Trace.cuts (kn) (fun x => by kernel_rfl), _, Try.func9, by kernel_rfl, by kernel_rfl⟩
/-! ### steeple/frob.Dual: function 7 -/
mutual
def frob_Dual.l6 : Nat → Int → Int → Int → Int → List S34 → Option (List S34)
  | 0, _, _, _, _, _ => none
  | k + 1, x0, x1, x2, x3, x4 => if x3 < x2 then frob_Dual.l9 k x0 x1 x3 x2 x3 x1 0 x4 else (span_Back.f k x4).bind fun r1 => some r1.1
def frob_Dual.l9 : Nat → Int → Int → Int → Int → Int → Int → Int → List S34 → Option (List S34)
  | 0, _, _, _, _, _, _, _, _ => none
  | k + 1, x0, x1, x2, x3, x4, x5, x6, x7 => if x6 < x5 then ((tower_Bit.f k x2).bind fun r2 => (tower_Bit.f k x6).bind fun r3 => (tower_Mul.f k x0 r2 r3).bind fun r4 => (frob_Trace.f k x0 0 r4).bind fun r5 => (tower_One.f k).bind fun r6 => if r5.f0 = r6.f0 ∧ r5.f1 = r6.f1 then (if 0 ≤ x6 then (if x6 < (x7.length : Int) then ((tower_Bit.f k x2).bind fun r7 => (tower_Add.f k (rd34 x7 x6) r7).bind fun r8 => if 0 ≤ x6 then (if x6 < (x7.length : Int) then frob_Dual.l9 k x0 x1 x2 x3 x4 x5 (wrap64 (x6 + 1)) (x7.set (Int.toNat x6) r8) else none) else none) else none) else none) else frob_Dual.l9 k x0 x1 x2 x3 x4 x5 (wrap64 (x6 + 1)) x7) else frob_Dual.l6 k x0 x1 x3 (wrap64 (x4 + 1)) x7
end
def frob_Dual.f (k : Nat) (a0 : Int) : Option (List S34) := (octet_Wide.f k a0).bind fun r0 => if r0 = 0 then some [] else if 0 ≤ a0 then (if 0 ≤ shl .i64 1 a0 then (if shl .i64 1 a0 ≤ 140737488355328 / ((16 : Nat) : Int) then frob_Dual.l6 k a0 (shl .i64 1 a0) (shl .i64 1 a0) 0 (List.replicate (Int.toNat (shl .i64 1 a0)) z34) else none) else none) else none
def frob_Dual.sig (k : Nat) : Sig E.toTys := ⟨[.int .i64], [(true, .slice (.st 0))], none, fun x => f k x.1⟩
noncomputable def frob_Dual.body : Code := Try.f7.body.getD .skip
def frob_Dual.calls (k : Nat) : List (Nat × Sig E.toTys) := [(24, octet_Wide.sig k), (25, span_Back.sig k), (19, tower_Bit.sig k), (10, tower_Mul.sig k), (9, frob_Trace.sig k), (11, tower_One.sig k), (18, tower_Add.sig k)]
def frob_Dual.cuts : List (Cut E (RT E.toTys [(true, .slice (.st 0))])) := [⟨true, 6, ⟨cat [.one (.val (.int .i64))] (cat (ds 2) (cat [.one (.val (.int .i64)), .one (.ref 0)] (cat (ds 11) (cat [.one (.val (.int .i64)), .one (.val (.int .i64))] (ds 34))))), [.arr (.st 0)], false⟩, fun k x => frob_Dual.l6 k x.1.1 x.1.2.1 x.1.2.2.1 x.1.2.2.2.1 x.2.1⟩,
  ⟨true, 9, ⟨cat [.one (.val (.int .i64))] (cat (ds 2) (cat [.one (.val (.int .i64)), .one (.ref 0), .one (.val (.int .i64))] (cat (ds 10) (cat [.one (.val (.int .i64)), .one (.val (.int .i64))] (cat (ds 2) (cat [.one (.val (.int .i64)), .one (.val (.int .i64))] (ds 30))))))), [.arr (.st 0)], false⟩, fun k x => frob_Dual.l9 k x.1.1 x.1.2.1 x.1.2.2.1 x.1.2.2.2.1 x.1.2.2.2.2.1 x.1.2.2.2.2.2.1 x.1.2.2.2.2.2.2.1 x.2.1⟩]
theorem frob_Dual.ok (k : Nat) : Okf (XR E) Try.prog 7 (frob_Dual.sig k) := ⟨fn_ok (C := fun k => tab.ctx fun f => lk f (frob_Dual.calls k)) (fun k => tie _) k (fun j hj => calls_ok (kc (octet_Wide.ok j) (kc (span_Back.ok j) (kc (tower_Bit.ok j) (kc (tower_Mul.ok j) (kc (frob_Trace.ok j) (kc (tower_One.ok j) (kc (tower_Add.ok j) (kn))))))))) 400 Try.func7 (body := frob_Dual.body) (res := [.tmp 2]) rfl (by kernel_rfl) frob_Dual.cuts (kc ⟨by kernel_rfl, rfl, fun _ => rfl, fun _ _ => by kernel_rfl⟩ (kc ⟨by kernel_rfl, rfl, fun _ => rfl, fun _ _ => by kernel_rfl⟩ (kn))) (fun x => by kernel_rfl), _, Try.func7, by kernel_rfl, by kernel_rfl⟩
/-! ### steeple/steepleref15.Two: function 8 -/
def steepleref15_Two.l3 : Nat → Int → Int → Int → Option Int
  | 0, _, _, _ => none
  | k + 1, x0, x1, x2 => if x2 < x0 then steepleref15_Two.l3 k x0 (wrap64 (2 * x1)) (wrap64 (x2 + 1)) else some x1
def steepleref15_Two.f (k : Nat) (a0 : Int) : Option Int := steepleref15_Two.l3 k a0 1 0
def steepleref15_Two.sig (k : Nat) : Sig E.toTys := ⟨[.int .i64], [(false, .int .i64)], none, fun x => f k x.1⟩
noncomputable def steepleref15_Two.body : Code := Try.f8.body.getD .skip
def steepleref15_Two.calls (k : Nat) : List (Nat × Sig E.toTys) := []
def steepleref15_Two.cuts : List (Cut E (RT E.toTys [(false, .int .i64)])) := [⟨true, 3, ⟨cat [.one (.val (.int .i64))] (cat (ds 2) (cat [.one (.val (.int .i64)), .one (.val (.int .i64))] (ds 8))), [], false⟩, fun k x => steepleref15_Two.l3 k x.1.1 x.1.2.1 x.1.2.2.1⟩]
theorem steepleref15_Two.ok (k : Nat) : Okf (XR E) Try.prog 8 (steepleref15_Two.sig k) := ⟨fn_ok (C := fun k => tab.ctx fun f => lk f (steepleref15_Two.calls k)) (fun k => tie _) k (fun j hj => calls_ok (kn)) 400 Try.func8 (body := steepleref15_Two.body) (res := [.tmp 2]) rfl (by kernel_rfl) steepleref15_Two.cuts (kc ⟨by kernel_rfl, rfl, fun _ => rfl, fun _ _ => by kernel_rfl⟩ (kn)) (fun x => by kernel_rfl), _, Try.func8, by kernel_rfl, by kernel_rfl⟩
/-! ### steeple/steeplelaw01.Ref: function 13 -/
def steeplelaw01_Ref.l3 : Nat → List S34 → Int → List S39 → Option (List S39)
  | 0, _, _, _ => none
  | k + 1, x0, x1, x2 => if x1 < (x0.length : Int) then (if 0 ≤ x1 then (if x1 < (x0.length : Int) then (if x2.length + [(⟨(rd34 x0 x1).f0, (rd34 x0 x1).f1⟩ : S39)].length ≤ 140737488355328 / 16 then steeplelaw01_Ref.l3 k x0 (wrap64 (x1 + 1)) (x2 ++ [(⟨(rd34 x0 x1).f0, (rd34 x0 x1).f1⟩ : S39)]) else none) else none) else none) else some x2
def steeplelaw01_Ref.f (k : Nat) (a0 : List S34) : Option (List S39) := steeplelaw01_Ref.l3 k a0 0 []
def steeplelaw01_Ref.sig (k : Nat) : Sig E.toTys := ⟨[.slice (.st 0)], [(true, .slice (.st 4))], none, fun x => f k x.1⟩
noncomputable def steeplelaw01_Ref.body : Code := Try.f13.body.getD .skip
def steeplelaw01_Ref.calls (k : Nat) : List (Nat × Sig E.toTys) := []
def steeplelaw01_Ref.cuts : List (Cut E (RT E.toTys [(true, .slice (.st 4))])) := [⟨true, 3, ⟨cat [.one (.val (.slice (.st 0)))] (cat (ds 2) (cat [.one (.ref 0), .one (.val (.int .i64))] (ds 14))), [.arr (.st 4)], false⟩, fun k x => steeplelaw01_Ref.l3 k x.1.1 x.1.2.1 x.2.1⟩]
theorem steeplelaw01_Ref.ok (k : Nat) : Okf (XR E) Try.prog 13 (steeplelaw01_Ref.sig k) := ⟨fn_ok (C := fun k => tab.ctx fun f => lk f (steeplelaw01_Ref.calls k)) (fun k => tie _) k (fun j hj => calls_ok (kn)) 400 Try.func13 (body := steeplelaw01_Ref.body) (res := [.tmp 2]) rfl (by kernel_rfl) steeplelaw01_Ref.cuts (kc ⟨by kernel_rfl, rfl, fun _ => rfl, fun _ _ => by kernel_rfl⟩ (kn)) (fun x => by kernel_rfl), _, Try.func13, by kernel_rfl, by kernel_rfl⟩
/-! ### steeple/steepleref02.Bit: function 31 -/
def steepleref02_Bit.f (k : Nat) (a0 : Int) : Option S39 := if a0 < 0 then some (⟨0, 0⟩ : S39) else if a0 > 127 then some (⟨0, 0⟩ : S39) else if a0 > 63 then (if 0 ≤ IntKind.u64.wrap (wrap64 (a0 - 64)) then some (⟨shl .u64 1 (IntKind.u64.wrap (wrap64 (a0 - 64))), 0⟩ : S39) else none) else if 0 ≤ IntKind.u64.wrap a0 then some (⟨0, shl .u64 1 (IntKind.u64.wrap a0)⟩ : S39) else none
def steepleref02_Bit.sig (k : Nat) : Sig E.toTys := ⟨[.int .i64], [(false, .st 4)], none, fun x => f k x.1⟩
noncomputable def steepleref02_Bit.body : Code := Try.f31.body.getD .skip
def steepleref02_Bit.calls (k : Nat) : List (Nat × Sig E.toTys) := []
def steepleref02_Bit.cuts : List (Cut E (RT E.toTys [(false, .st 4)])) := []
theorem steepleref02_Bit.ok (k : Nat) : Okf (XR E) Try.prog 31 (steepleref02_Bit.sig k) := ⟨fn_ok (C := fun k => tab.ctx fun f => lk f (steepleref02_Bit.calls k)) (fun k => tie _) k (fun j hj => calls_ok (kn)) 400 Try.func31 (body := steepleref02_Bit.body) (res := [.cell 2 39]) rfl (by kernel_rfl) steepleref02_Bit.cuts (kn) (fun x => by kernel_rfl), _, Try.func31, by kernel_rfl, by kernel_rfl⟩
/-! ### steeple/steepleref02.Has: function 12 -/
def steepleref02_Has.f (k : Nat) (a0 : S39) (a1 : Int) : Option Bool := (steepleref02_Bit.f k a1).bind fun r0 => some (!decide (bits .or .u64 (bits .and .u64 a0.f1 r0.f1) (bits .and .u64 a0.f0 r0.f0) = 0))
def steepleref02_Has.sig (k : Nat) : Sig E.toTys := ⟨[.st 4, .int .i64], [(false, .bool)], none, fun x => f k x.1 x.2.1⟩
noncomputable def steepleref02_Has.body : Code := Try.f12.body.getD .skip
def steepleref02_Has.calls (k : Nat) : List (Nat × Sig E.toTys) := [(31, steepleref02_Bit.sig k)]
def steepleref02_Has.cuts : List (Cut E (RT E.toTys [(false, .bool)])) := []
theorem steepleref02_Has.ok (k : Nat) : Okf (XR E) Try.prog 12 (steepleref02_Has.sig k) := ⟨fn_ok (C := fun k => tab.ctx fun f => lk f (steepleref02_Has.calls k)) (fun k => tie _) k (fun j hj => calls_ok (kc (steepleref02_Bit.ok j) (kn))) 400 Try.func12 (body := steepleref02_Has.body) (res := [.tmp 4]) rfl (by kernel_rfl) steepleref02_Has.cuts (kn) (fun x => by kernel_rfl), _, Try.func12, by kernel_rfl, by kernel_rfl⟩
/-! ### steeple/steepletop.TopDual: function 3 -/
mutual
def steepletop_TopDual.j2 : Nat → Option Bool
  | 0 => none
  | k + 1 => (steepletop_fine.f k).bind fun r4 => some r4
def steepletop_TopDual.l10 : Nat → Int → Int → List Bool → List S34 → List S34 → List S34 → List S34 → Option Bool
  | 0, _, _, _, _, _, _, _ => none
  | k + 1, x0, x1, x2, x3, x4, x5, x6 => if x1 < (x2.length : Int) then (if (x6.length : Int) = 0 then none else if wrap64 (Int.tdiv x1 (x6.length : Int)) ≥ (x5.length : Int) then some false else if 0 ≤ wrap64 (Int.tdiv x1 (x6.length : Int)) then (if wrap64 (Int.tdiv x1 (x6.length : Int)) < (x5.length : Int) then (if (x6.length : Int) = 0 then none else if 0 ≤ Int.tmod x1 (x6.length : Int) then (if Int.tmod x1 (x6.length : Int) < (x6.length : Int) then ((tower_Mul.f k x0 (rd34 x5 (wrap64 (Int.tdiv x1 (x6.length : Int)))) (rd34 x6 (Int.tmod x1 (x6.length : Int)))).bind fun r5 => (frob_Trace.f k x0 0 r5).bind fun r6 => (tower_One.f k).bind fun r7 => if 0 ≤ x1 then (if x1 < (x2.length : Int) then (if (decide (r6.f0 = r7.f0 ∧ r6.f1 = r7.f1)) = (rdB x2 x1) then ((steeplelaw01_Ref.f k x5).bind fun r8 => if 0 ≤ wrap64 (Int.tdiv x1 (x6.length : Int)) then (if wrap64 (Int.tdiv x1 (x6.length : Int)) < (r8.length : Int) then (if (x6.length : Int) = 0 then none else (steepleref02_Has.f k (rd39 r8 (wrap64 (Int.tdiv x1 (x6.length : Int)))) (Int.tmod x1 (x6.length : Int))).bind fun r9 => if 0 ≤ x1 then (if x1 < (x2.length : Int) then (if r9 = (rdB x2 x1) then steepletop_TopDual.l10 k x0 (wrap64 (x1 + 1)) x2 x3 x4 x5 x6 else some false) else none) else none) else none) else none) else some false) else none) else none) else none) else none) else none) else none) else some true
end
def steepletop_TopDual.f (k : Nat) (a0 : Int) (a1 : S25) : Option Bool := if (a1.f0.length : Int) > 130 then steepletop_TopDual.j2 k else if a0 < 0 then steepletop_TopDual.j2 k else if a0 > 5 then steepletop_TopDual.j2 k else (steepletop_fine.f k).bind fun r0 => if (!r0) = true then steepletop_TopDual.j2 k else (ring_Pack.f k a0 a1.f0).bind fun r1 => if r1.2 = 0 then ((frob_Dual.f k a0).bind fun r2 => (steepleref15_Two.f k a0).bind fun r3 => if (r2.length : Int) = r3 then steepletop_TopDual.l10 k a0 0 a1.f0 a1.f1 a1.f2 r1.1 r2 else some false) else some true
def steepletop_TopDual.sig (k : Nat) : Sig E.toTys := ⟨[.int .i64, .st 1], [(false, .bool)], none, fun x => f k x.1 x.2.1⟩
noncomputable def steepletop_TopDual.body : Code := Try.f3.body.getD .skip
def steepletop_TopDual.calls (k : Nat) : List (Nat × Sig E.toTys) := [(5, steepletop_fine.sig k), (6, ring_Pack.sig k), (7, frob_Dual.sig k), (8, steepleref15_Two.sig k), (10, tower_Mul.sig k), (9, frob_Trace.sig k), (11, tower_One.sig k), (13, steeplelaw01_Ref.sig k), (12, steepleref02_Has.sig k)]
def steepletop_TopDual.cuts : List (Cut E (RT E.toTys [(false, .bool)])) := [⟨false, 2, ⟨ds 101, [], false⟩, fun k x => steepletop_TopDual.j2 k⟩,
  ⟨true, 10, ⟨cat [.one (.val (.int .i64))] (cat (ds 2) (cat [.one (.ptr 0 0)] (cat (ds 1) (cat [.one (.ref 1)] (cat (ds 1) (cat [.one (.ref 2), .one (.val (.int .i64))] (ds 92))))))), [.var [.val (.slice .bool), .val (.slice (.st 0)), .val (.slice (.st 0))], .arr (.st 0), .arr (.st 0)], false⟩, fun k x => steepletop_TopDual.l10 k x.1.1 x.1.2.1 x.2.1.1 x.2.1.2.1 x.2.1.2.2.1 x.2.2.1 x.2.2.2.1⟩]
theorem steepletop_TopDual.ok (k : Nat) : Okf (XR E) Try.prog 3 (steepletop_TopDual.sig k) := ⟨fn_ok (C := fun k => tab.ctx fun f => lk f (steepletop_TopDual.calls k)) (fun k => tie _) k (fun j hj => calls_ok (kc (steepletop_fine.ok j) (kc (ring_Pack.ok j) (kc (frob_Dual.ok j) (kc (steepleref15_Two.ok j) (kc (tower_Mul.ok j) (kc (frob_Trace.ok j) (kc (tower_One.ok j) (kc (steeplelaw01_Ref.ok j) (kc (steepleref02_Has.ok j) (kn))))))))))) 400 Try.func3 (body := steepletop_TopDual.body) (res := [.tmp 4]) rfl (by kernel_rfl) steepletop_TopDual.cuts (kc ⟨by kernel_rfl, rfl, fun _ => rfl, fun _ _ => by kernel_rfl⟩ (kc ⟨by kernel_rfl, rfl, fun _ => rfl, fun _ _ => by kernel_rfl⟩ (kn))) (fun x => by kernel_rfl), _, Try.func3, by kernel_rfl, by kernel_rfl⟩
/-! ### steeple/ring.of$1: function 53 -/
def ring_of_1.f (k : Nat) (a0 : S34) (a1 : Option Int) : Option Bool := (match a1 with | none => none | some r0 => (octet_Of.f k r0 a0).bind fun r1 => some (!r1))
def ring_of_1.sig (k : Nat) : Sig E.toTys := ⟨[.st 0, .ptr (.int .i64)], [(false, .bool)], none, fun x => f k x.1 x.2.1⟩
noncomputable def ring_of_1.body : Code := Try.f53.body.getD .skip
def ring_of_1.calls (k : Nat) : List (Nat × Sig E.toTys) := [(28, octet_Of.sig k)]
def ring_of_1.cuts : List (Cut E (RT E.toTys [(false, .bool)])) := []
theorem ring_of_1.ok (k : Nat) : Okf (XR E) Try.prog 53 (ring_of_1.sig k) := ⟨fn_ok (C := fun k => tab.ctx fun f => lk f (ring_of_1.calls k)) (fun k => tie _) k (fun j hj => calls_ok (kc (octet_Of.ok j) (kn))) 400 Try.func53 (body := ring_of_1.body) (res := [.tmp 3]) rfl (by kernel_rfl) ring_of_1.cuts (kn) (fun x => by kernel_rfl), _, Try.func53, by kernel_rfl, by kernel_rfl⟩
/-! ### slices.IndexFunc: function 77 -/
def slices_IndexFunc77_c53.l2 : Nat → List S34 → Int → Int → Int → Option Int
  | 0, _, _, _, _ => none
  | k + 1, x0, x1, x2, x3 => if x3 < x2 then (if 0 ≤ x3 then (if x3 < (x0.length : Int) then ((ring_of_1.f k (rd34 x0 x3) (some x1)).bind fun r0 => if r0 = true then some x3 else slices_IndexFunc77_c53.l2 k x0 x1 x2 (wrap64 (x3 + 1))) else none) else none) else some (-1)
def slices_IndexFunc77_c53.f (k : Nat) (a0 : List S34) (a1 : Int) : Option Int := slices_IndexFunc77_c53.l2 k a0 a1 (a0.length : Int) 0
def slices_IndexFunc77_c53.sig (k : Nat) : Sig E.toTys := ⟨[.slice (.st 0), .ext 53 (.int .i64)], [(false, .int .i64)], none, fun x => f k x.1 x.2.1⟩
noncomputable def slices_IndexFunc77_c53.body : Code := Try.f77.body.getD .skip
def slices_IndexFunc77_c53.calls (k : Nat) : List (Nat × Sig E.toTys) := [(53, ring_of_1.sig k)]
def slices_IndexFunc77_c53.cuts : List (Cut E (RT E.toTys [(false, .int .i64)])) := [⟨true, 2, ⟨cat [.one (.val (.slice (.st 0))), .one (.val (.ext 53 (.int .i64)))] (cat (ds 5) (cat [.one (.val (.int .i64)), .one (.val (.int .i64))] (ds 10))), [], false⟩, fun k x => slices_IndexFunc77_c53.l2 k x.1.1 x.1.2.1 x.1.2.2.1 x.1.2.2.2.1⟩]
theorem slices_IndexFunc77_c53.ok (k : Nat) : Okf (XR E) Try.prog 77 (slices_IndexFunc77_c53.sig k) := ⟨fn_ok (C := fun k => tab.ctx fun f => lk f (slices_IndexFunc77_c53.calls k)) (fun k => tie _) k (fun j hj => calls_ok (kc (ring_of_1.ok j) (kn))) 400 Try.func77 (body := slices_IndexFunc77_c53.body) (res := [.tmp 4]) rfl (by kernel_rfl) slices_IndexFunc77_c53.cuts (kc ⟨by kernel_rfl, rfl, fun _ => rfl, fun _ _ => by kernel_rfl⟩ (kn)) (fun x => by kernel_rfl), _, Try.func77, by kernel_rfl, by kernel_rfl⟩
/-! ### slices.ContainsFunc: function 52 -/
def slices_ContainsFunc52_c53.f (k : Nat) (a0 : List S34) (a1 : Int) : Option Bool := (slices_IndexFunc77_c53.f k a0 a1).bind fun r0 => some (decide (r0 ≥ 0))
def slices_ContainsFunc52_c53.sig (k : Nat) : Sig E.toTys := ⟨[.slice (.st 0), .ext 53 (.int .i64)], [(false, .bool)], none, fun x => f k x.1 x.2.1⟩
noncomputable def slices_ContainsFunc52_c53.body : Code := Try.f52.body.getD .skip
def slices_ContainsFunc52_c53.calls (k : Nat) : List (Nat × Sig E.toTys) := [(77, slices_IndexFunc77_c53.sig k)]
def slices_ContainsFunc52_c53.cuts : List (Cut E (RT E.toTys [(false, .bool)])) := []
theorem slices_ContainsFunc52_c53.ok (k : Nat) : Okf (XR E) Try.prog 52 (slices_ContainsFunc52_c53.sig k) := ⟨fn_ok (C := fun k => tab.ctx fun f => lk f (slices_ContainsFunc52_c53.calls k)) (fun k => tie _) k (fun j hj => calls_ok (kc (slices_IndexFunc77_c53.ok j) (kn))) 400 Try.func52 (body := slices_ContainsFunc52_c53.body) (res := [.tmp 4]) rfl (by kernel_rfl) slices_ContainsFunc52_c53.cuts (kn) (fun x => by kernel_rfl), _, Try.func52, by kernel_rfl, by kernel_rfl⟩
/-! ### steeple/ring.of: function 35 -/
def ring_of.f (k : Nat) (a0 : Int) (a1 : List S34) : Option Bool := (slices_ContainsFunc52_c53.f k a1 a0).bind fun r0 => some (!r0)
def ring_of.sig (k : Nat) : Sig E.toTys := ⟨[.int .i64, .slice (.st 0)], [(false, .bool)], none, fun x => f k x.1 x.2.1⟩
noncomputable def ring_of.body : Code := Try.f35.body.getD .skip
def ring_of.calls (k : Nat) : List (Nat × Sig E.toTys) := [(52, slices_ContainsFunc52_c53.sig k)]
def ring_of.cuts : List (Cut E (RT E.toTys [(false, .bool)])) := []
theorem ring_of.ok (k : Nat) : Okf (XR E) Try.prog 35 (ring_of.sig k) := ⟨fn_ok (C := fun k => tab.ctx fun f => lk f (ring_of.calls k)) (fun k => tie _) k (fun j hj => calls_ok (kc (slices_ContainsFunc52_c53.ok j) (kn))) 400 Try.func35 (body := ring_of.body) (res := [.tmp 4]) rfl (by kernel_rfl) ring_of.cuts (kn) (fun x => by kernel_rfl), _, Try.func35, by kernel_rfl, by kernel_rfl⟩
/-! ### steeple/ring.mayMask: function 32 -/
def ring_mayMask.f (k : Nat) (a0 : Int) (a1 : List S34) (a2 : List S34) : Option Int := (octet_Wide.f k a0).bind fun r0 => if r0 = 0 then some 1 else if (a1.length : Int) > 12 then some 6 else if (a2.length : Int) = a0 then ((ring_of.f k a0 a1).bind fun r1 => if (!r1) = true then some 5 else (ring_of.f k a0 a2).bind fun r2 => if (!r2) = true then some 5 else some 0) else some 6
def ring_mayMask.sig (k : Nat) : Sig E.toTys := ⟨[.int .i64, .slice (.st 0), .slice (.st 0)], [(false, .int .i64)], none, fun x => f k x.1 x.2.1 x.2.2.1⟩
noncomputable def ring_mayMask.body : Code := Try.f32.body.getD .skip
def ring_mayMask.calls (k : Nat) : List (Nat × Sig E.toTys) := [(24, octet_Wide.sig k), (35, ring_of.sig k)]
def ring_mayMask.cuts : List (Cut E (RT E.toTys [(false, .int .i64)])) := []
theorem ring_mayMask.ok (k : Nat) : Okf (XR E) Try.prog 32 (ring_mayMask.sig k) := ⟨fn_ok (C := fun k => tab.ctx fun f => lk f (ring_mayMask.calls k)) (fun k => tie _) k (fun j hj => calls_ok (kc (octet_Wide.ok j) (kc (ring_of.ok j) (kn)))) 400 Try.func32 (body := ring_mayMask.body) (res := [.tmp 6]) rfl (by kernel_rfl) ring_mayMask.cuts (kn) (fun x => by kernel_rfl), _, Try.func32, by kernel_rfl, by kernel_rfl⟩
/-! ### steeple/cube.of$1: function 75 -/
def cube_of_1.f (k : Nat) (a0 : S34) (a1 : Option Int) : Option Bool := (match a1 with | none => none | some r0 => (octet_Of.f k r0 a0).bind fun r1 => some (!r1))
def cube_of_1.sig (k : Nat) : Sig E.toTys := ⟨[.st 0, .ptr (.int .i64)], [(false, .bool)], none, fun x => f k x.1 x.2.1⟩
noncomputable def cube_of_1.body : Code := Try.f75.body.getD .skip
def cube_of_1.calls (k : Nat) : List (Nat × Sig E.toTys) := [(28, octet_Of.sig k)]
def cube_of_1.cuts : List (Cut E (RT E.toTys [(false, .bool)])) := []
theorem cube_of_1.ok (k : Nat) : Okf (XR E) Try.prog 75 (cube_of_1.sig k) := ⟨fn_ok (C := fun k => tab.ctx fun f => lk f (cube_of_1.calls k)) (fun k => tie _) k (fun j hj => calls_ok (kc (octet_Of.ok j) (kn))) 400 Try.func75 (body := cube_of_1.body) (res := [.tmp 3]) rfl (by kernel_rfl) cube_of_1.cuts (kn) (fun x => by kernel_rfl), _, Try.func75, by kernel_rfl, by kernel_rfl⟩
/-! ### slices.IndexFunc: function 77 -/
def slices_IndexFunc77_c75.l2 : Nat → List S34 → Int → Int → Int → Option Int
  | 0, _, _, _, _ => none
  | k + 1, x0, x1, x2, x3 => if x3 < x2 then (if 0 ≤ x3 then (if x3 < (x0.length : Int) then ((cube_of_1.f k (rd34 x0 x3) (some x1)).bind fun r0 => if r0 = true then some x3 else slices_IndexFunc77_c75.l2 k x0 x1 x2 (wrap64 (x3 + 1))) else none) else none) else some (-1)
def slices_IndexFunc77_c75.f (k : Nat) (a0 : List S34) (a1 : Int) : Option Int := slices_IndexFunc77_c75.l2 k a0 a1 (a0.length : Int) 0
def slices_IndexFunc77_c75.sig (k : Nat) : Sig E.toTys := ⟨[.slice (.st 0), .ext 75 (.int .i64)], [(false, .int .i64)], none, fun x => f k x.1 x.2.1⟩
noncomputable def slices_IndexFunc77_c75.body : Code := Try.f77.body.getD .skip
def slices_IndexFunc77_c75.calls (k : Nat) : List (Nat × Sig E.toTys) := [(75, cube_of_1.sig k)]
def slices_IndexFunc77_c75.cuts : List (Cut E (RT E.toTys [(false, .int .i64)])) := [⟨true, 2, ⟨cat [.one (.val (.slice (.st 0))), .one (.val (.ext 75 (.int .i64)))] (cat (ds 5) (cat [.one (.val (.int .i64)), .one (.val (.int .i64))] (ds 10))), [], false⟩, fun k x => slices_IndexFunc77_c75.l2 k x.1.1 x.1.2.1 x.1.2.2.1 x.1.2.2.2.1⟩]
theorem slices_IndexFunc77_c75.ok (k : Nat) : Okf (XR E) Try.prog 77 (slices_IndexFunc77_c75.sig k) := ⟨fn_ok (C := fun k => tab.ctx fun f => lk f (slices_IndexFunc77_c75.calls k)) (fun k => tie _) k (fun j hj => calls_ok (kc (cube_of_1.ok j) (kn))) 400 Try.func77 (body := slices_IndexFunc77_c75.body) (res := [.tmp 4]) rfl (by kernel_rfl) slices_IndexFunc77_c75.cuts (kc ⟨by kernel_rfl, rfl, fun _ => rfl, fun _ _ => by kernel_rfl⟩ (kn)) (fun x => by kernel_rfl), _, Try.func77, by kernel_rfl, by kernel_rfl⟩
/-! ### slices.ContainsFunc: function 52 -/
def slices_ContainsFunc52_c75.f (k : Nat) (a0 : List S34) (a1 : Int) : Option Bool := (slices_IndexFunc77_c75.f k a0 a1).bind fun r0 => some (decide (r0 ≥ 0))
def slices_ContainsFunc52_c75.sig (k : Nat) : Sig E.toTys := ⟨[.slice (.st 0), .ext 75 (.int .i64)], [(false, .bool)], none, fun x => f k x.1 x.2.1⟩
noncomputable def slices_ContainsFunc52_c75.body : Code := Try.f52.body.getD .skip
def slices_ContainsFunc52_c75.calls (k : Nat) : List (Nat × Sig E.toTys) := [(77, slices_IndexFunc77_c75.sig k)]
def slices_ContainsFunc52_c75.cuts : List (Cut E (RT E.toTys [(false, .bool)])) := []
theorem slices_ContainsFunc52_c75.ok (k : Nat) : Okf (XR E) Try.prog 52 (slices_ContainsFunc52_c75.sig k) := ⟨fn_ok (C := fun k => tab.ctx fun f => lk f (slices_ContainsFunc52_c75.calls k)) (fun k => tie _) k (fun j hj => calls_ok (kc (slices_IndexFunc77_c75.ok j) (kn))) 400 Try.func52 (body := slices_ContainsFunc52_c75.body) (res := [.tmp 4]) rfl (by kernel_rfl) slices_ContainsFunc52_c75.cuts (kn) (fun x => by kernel_rfl), _, Try.func52, by kernel_rfl, by kernel_rfl⟩
/-! ### steeple/cube.of: function 49 -/
def cube_of.f (k : Nat) (a0 : Int) (a1 : List S34) : Option Bool := (slices_ContainsFunc52_c75.f k a1 a0).bind fun r0 => some (!r0)
def cube_of.sig (k : Nat) : Sig E.toTys := ⟨[.int .i64, .slice (.st 0)], [(false, .bool)], none, fun x => f k x.1 x.2.1⟩
noncomputable def cube_of.body : Code := Try.f49.body.getD .skip
def cube_of.calls (k : Nat) : List (Nat × Sig E.toTys) := [(52, slices_ContainsFunc52_c75.sig k)]
def cube_of.cuts : List (Cut E (RT E.toTys [(false, .bool)])) := []
theorem cube_of.ok (k : Nat) : Okf (XR E) Try.prog 49 (cube_of.sig k) := ⟨fn_ok (C := fun k => tab.ctx fun f => lk f (cube_of.calls k)) (fun k => tie _) k (fun j hj => calls_ok (kc (slices_ContainsFunc52_c75.ok j) (kn))) 400 Try.func49 (body := cube_of.body) (res := [.tmp 4]) rfl (by kernel_rfl) cube_of.cuts (kn) (fun x => by kernel_rfl), _, Try.func49, by kernel_rfl, by kernel_rfl⟩
/-! ### steeple/cube.Weights: function 33 -/
mutual
def cube_Weights.l5 : Nat → Int → List S34 → Int → Int → List S34 → Option (List S34)
  | 0, _, _, _, _, _ => none
  | k + 1, x0, x1, x2, x3, x4 => if x3 < x2 then (if 0 ≤ x3 then (if x3 < (x1.length : Int) then (if 0 ≤ (x4.length : Int) then (if (x4.length : Int) ≤ 140737488355328 / ((16 : Nat) : Int) then cube_Weights.l9 k x0 x1 x2 x3 (x4.length : Int) 0 x4 (rd34 x1 x3).f0 (rd34 x1 x3).f1 (List.replicate (Int.toNat (x4.length : Int)) z34) else none) else none) else none) else none) else some x4
def cube_Weights.l9 : Nat → Int → List S34 → Int → Int → Int → Int → List S34 → Int → Int → List S34 → Option (List S34)
  | 0, _, _, _, _, _, _, _, _, _, _ => none
  | k + 1, x0, x1, x2, x3, x4, x5, x6, x7, x8, x9 => if x5 < x4 then (if 0 ≤ x5 then (if x5 < (x6.length : Int) then ((tower_Mul.f k x0 (rd34 x6 x5) (⟨x7, x8⟩ : S34)).bind fun r3 => if 0 ≤ x5 then (if x5 < (x9.length : Int) then (if 0 ≤ x5 then (if x5 < ((x9.set (Int.toNat x5) r3).length : Int) then ((tower_Add.f k (rd34 x6 x5) (rd34 (x9.set (Int.toNat x5) r3) x5)).bind fun r4 => if 0 ≤ x5 then (if x5 < (x6.length : Int) then cube_Weights.l9 k x0 x1 x2 x3 x4 (wrap64 (x5 + 1)) (x6.set (Int.toNat x5) r4) x7 x8 (x9.set (Int.toNat x5) r3) else none) else none) else none) else none) else none) else none) else none) else none) else if x6.length + x9.length ≤ 140737488355328 / 16 then cube_Weights.l5 k x0 x1 x2 (wrap64 (x3 + 1)) (x6 ++ x9) else none
end
def cube_Weights.f (k : Nat) (a0 : Int) (a1 : List S34) : Option (List S34) := (octet_Wide.f k a0).bind fun r0 => if r0 = 0 then some [] else if (a1.length : Int) > 16 then some [] else (cube_of.f k a0 a1).bind fun r1 => if (!r1) = true then some [] else (tower_One.f k).bind fun r2 => cube_Weights.l5 k a0 a1 (a1.length : Int) 0 [r2]
def cube_Weights.sig (k : Nat) : Sig E.toTys := ⟨[.int .i64, .slice (.st 0)], [(true, .slice (.st 0))], none, fun x => f k x.1 x.2.1⟩
noncomputable def cube_Weights.body : Code := Try.f33.body.getD .skip
def cube_Weights.calls (k : Nat) : List (Nat × Sig E.toTys) := [(24, octet_Wide.sig k), (49, cube_of.sig k), (11, tower_One.sig k), (10, tower_Mul.sig k), (18, tower_Add.sig k)]
def cube_Weights.cuts : List (Cut E (RT E.toTys [(true, .slice (.st 0))])) := [⟨true, 5, ⟨cat [.one (.val (.int .i64))] (cat (ds 4) (cat [.one (.ref 0)] (cat (ds 21) (cat [.one (.val (.slice (.st 0))), .one (.val (.int .i64)), .one (.val (.int .i64))] (ds 35))))), [.arr (.st 0)], false⟩, fun k x => cube_Weights.l5 k x.1.1 x.1.2.1 x.1.2.2.1 x.1.2.2.2.1 x.2.1⟩,
  ⟨true, 9, ⟨cat [.one (.val (.int .i64))] (cat (ds 4) (cat [.one (.ref 0)] (cat (ds 1) (cat [.one (.ptr 1 0), .one (.ref 2)] (cat (ds 18) (cat [.one (.val (.slice (.st 0))), .one (.val (.int .i64)), .one (.val (.int .i64))] (cat (ds 6) (cat [.one (.ref 0), .one (.val (.int .i64)), .one (.val (.int .i64))] (ds 26))))))))), [.arr (.st 0), .var [.val (.int .u64), .val (.int .u64)], .arr (.st 0)], false⟩, fun k x => cube_Weights.l9 k x.1.1 x.1.2.1 x.1.2.2.1 x.1.2.2.2.1 x.1.2.2.2.2.1 x.1.2.2.2.2.2.1 x.2.1 x.2.2.1.1 x.2.2.1.2.1 x.2.2.2.1⟩]
theorem cube_Weights.ok (k : Nat) : Okf (XR E) Try.prog 33 (cube_Weights.sig k) := ⟨fn_ok (C := fun k => tab.ctx fun f => lk f (cube_Weights.calls k)) (fun k => tie _) k (fun j hj => calls_ok (kc (octet_Wide.ok j) (kc (cube_of.ok j) (kc (tower_One.ok j) (kc (tower_Mul.ok j) (kc (tower_Add.ok j) (kn))))))) 400 Try.func33 (body := cube_Weights.body) (res := [.tmp 4]) rfl (by kernel_rfl) cube_Weights.cuts (kc ⟨by kernel_rfl, rfl, fun _ => rfl, fun _ _ => by kernel_rfl⟩ (kc ⟨by kernel_rfl, rfl, fun _ => rfl, fun _ _ => by kernel_rfl⟩ (kn))) (fun x => by kernel_rfl), _, Try.func33, by kernel_rfl, by kernel_rfl⟩
/-! ### steeple/span.make1: function 51 -/
def span_make1.l3 : Nat → List S34 → Int → Int → Int → Int → Int → Int → Int → Int → Option S34
  | 0, _, _, _, _, _, _, _, _, _ => none
  | k + 1, x0, x1, x2, x3, x4, x5, x6, x7, x8 => if x2 < x1 then (if 0 ≤ x2 then (if x2 < (x0.length : Int) then ((span_has.f k (⟨x3, x4⟩ : S34) x2).bind fun r0 => if r0 = true then ((tower_Add.f k (⟨x7, x8⟩ : S34) (rd34 x0 x2)).bind fun r1 => span_make1.l3 k x0 x1 (wrap64 (x2 + 1)) x3 x4 x5 x6 r1.f0 r1.f1) else span_make1.l3 k x0 x1 (wrap64 (x2 + 1)) x3 x4 x5 x6 x7 x8) else none) else none) else some (⟨x7, x8⟩ : S34)
def span_make1.f (k : Nat) (a0 : List S34) (a1 : S34) : Option S34 := span_make1.l3 k a0 (a0.length : Int) 0 a1.f0 a1.f1 0 0 0 0
def span_make1.sig (k : Nat) : Sig E.toTys := ⟨[.slice (.st 0), .st 0], [(false, .st 0)], none, fun x => f k x.1 x.2.1⟩
noncomputable def span_make1.body : Code := Try.f51.body.getD .skip
def span_make1.calls (k : Nat) : List (Nat × Sig E.toTys) := [(72, span_has.sig k), (18, tower_Add.sig k)]
def span_make1.cuts : List (Cut E (RT E.toTys [(false, .st 0)])) := [⟨true, 3, ⟨cat (ds 3) (cat [.one (.ptr 0 0), .one (.ptr 1 0), .one (.ptr 2 0)] (cat (ds 2) (cat [.one (.val (.slice (.st 0))), .one (.val (.int .i64)), .one (.val (.int .i64))] (ds 12)))), [.var [.val (.int .u64), .val (.int .u64)], .var [.val (.int .u64), .val (.int .u64)], .var [.val (.int .u64), .val (.int .u64)]], false⟩, fun k x => span_make1.l3 k x.1.1 x.1.2.1 x.1.2.2.1 x.2.1.1 x.2.1.2.1 x.2.2.1.1 x.2.2.1.2.1 x.2.2.2.1.1 x.2.2.2.1.2.1⟩]
theorem span_make1.ok (k : Nat) : Okf (XR E) Try.prog 51 (span_make1.sig k) := ⟨fn_ok (C := fun k => tab.ctx fun f => lk f (span_make1.calls k)) (fun k => tie _) k (fun j hj => calls_ok (kc (span_has.ok j) (kc (tower_Add.ok j) (kn)))) 400 Try.func51 (body := span_make1.body) (res := [.cell 4 34]) rfl (by kernel_rfl) span_make1.cuts (kc ⟨by kernel_rfl, rfl, fun _ => rfl, fun _ _ => by kernel_rfl⟩ (kn)) (fun x => by kernel_rfl), _, Try.func51, by kernel_rfl, by kernel_rfl⟩
/-! ### steeple/span.Apply: function 34 -/
def span_Apply.f (k : Nat) (a0 : List S34) (a1 : S34) : Option (S34 × Int) := if (a0.length : Int) > 128 then some ((⟨0, 0⟩ : S34), 1) else (span_lead.f k a1).bind fun r0 => if r0 ≥ (a0.length : Int) then some ((⟨0, 0⟩ : S34), 6) else (span_make1.f k a0 a1).bind fun r1 => some (r1, 0)
def span_Apply.sig (k : Nat) : Sig E.toTys := ⟨[.slice (.st 0), .st 0], [(false, .st 0), (false, .int .i64)], none, fun x => f k x.1 x.2.1⟩
noncomputable def span_Apply.body : Code := Try.f34.body.getD .skip
def span_Apply.calls (k : Nat) : List (Nat × Sig E.toTys) := [(50, span_lead.sig k), (51, span_make1.sig k)]
def span_Apply.cuts : List (Cut E (RT E.toTys [(false, .st 0), (false, .int .i64)])) := []
theorem span_Apply.ok (k : Nat) : Okf (XR E) Try.prog 34 (span_Apply.sig k) := ⟨fn_ok (C := fun k => tab.ctx fun f => lk f (span_Apply.calls k)) (fun k => tie _) k (fun j hj => calls_ok (kc (span_lead.ok j) (kc (span_make1.ok j) (kn)))) 400 Try.func34 (body := span_Apply.body) (res := [.cell 4 34, .tmp 5]) rfl (by kernel_rfl) span_Apply.cuts (kn) (fun x => by kernel_rfl), _, Try.func34, by kernel_rfl, by kernel_rfl⟩
end Go.Proofs.Ytfmjodlcjaflfaa.B
namespace Go.Proofs.Ytfmjodlcjaflfaa.B
open Go.Proofs.Ytfmjodlcjaflfaa.V.B Go.RowKit
set_option linter.unusedVariables false
/-! ### steeple/ring.Mask: function 14 -/
def ring_Mask.l7 : Nat → Int → Int → List S34 → List S34 → List S34 → Option ((List S34) × Int)
  | 0, _, _, _, _, _ => none
  | k + 1, x0, x1, x2, x3, x4 => if x1 < x0 then (if 0 ≤ x1 then (if x1 < (x3.length : Int) then ((span_Apply.f k x2 (rd34 x3 x1)).bind fun r3 => if x4.length + [r3.1].length ≤ 140737488355328 / 16 then ring_Mask.l7 k x0 (wrap64 (x1 + 1)) x2 x3 (x4 ++ [r3.1]) else none) else none) else none) else some (x4, 0)
def ring_Mask.f (k : Nat) (a0 : Int) (a1 : List S34) (a2 : List S34) : Option ((List S34) × Int) := (ring_mayMask.f k a0 a1 a2).bind fun r0 => if r0 = 0 then ((cube_Weights.f k a0 a2).bind fun r1 => (cube_Weights.f k a0 a1).bind fun r2 => ring_Mask.l7 k (r2.length : Int) 0 r1 r2 []) else some ([], r0)
def ring_Mask.sig (k : Nat) : Sig E.toTys := ⟨[.int .i64, .slice (.st 0), .slice (.st 0)], [(true, .slice (.st 0)), (false, .int .i64)], none, fun x => f k x.1 x.2.1 x.2.2.1⟩
noncomputable def ring_Mask.body : Code := Try.f14.body.getD .skip
def ring_Mask.calls (k : Nat) : List (Nat × Sig E.toTys) := [(32, ring_mayMask.sig k), (33, cube_Weights.sig k), (34, span_Apply.sig k)]
def ring_Mask.cuts : List (Cut E (RT E.toTys [(true, .slice (.st 0)), (false, .int .i64)])) := [⟨true, 7, ⟨cat (ds 9) (cat [.one (.ref 0), .one (.ref 2)] (cat (ds 16) (cat [.one (.ref 1), .one (.val (.int .i64)), .one (.val (.int .i64))] (ds 15)))), [.arr (.st 0), .arr (.st 0), .arr (.st 0)], false⟩, fun k x => ring_Mask.l7 k x.1.1 x.1.2.1 x.2.1 x.2.2.1 x.2.2.2.1⟩]
theorem ring_Mask.ok (k : Nat) : Okf (XR E) Try.prog 14 (ring_Mask.sig k) := ⟨fn_ok (C := fun k => tab.ctx fun f => lk f (ring_Mask.calls k)) (fun k => tie _) k (fun j hj => calls_ok (kc (ring_mayMask.ok j) (kc (cube_Weights.ok j) (kc (span_Apply.ok j) (kn))))) 400 Try.func14 (body := ring_Mask.body) (res := [.tmp 6, .tmp 7]) rfl (by kernel_rfl) ring_Mask.cuts (kc ⟨by kernel_rfl, rfl, fun _ => rfl, fun _ _ => by kernel_rfl⟩ (kn)) (fun x => by kernel_rfl), _, Try.func14, by kernel_rfl, by kernel_rfl⟩
/-! ### steeple/packv.size: function 54 -/
def packv_size.f (k : Nat) (a0 : Int) : Option Int := (octet_Wide.f k a0).bind fun r0 => if r0 = 0 then some 0 else if 0 ≤ a0 then some (shl .i64 1 a0) else none
def packv_size.sig (k : Nat) : Sig E.toTys := ⟨[.int .i64], [(false, .int .i64)], none, fun x => f k x.1⟩
noncomputable def packv_size.body : Code := Try.f54.body.getD .skip
def packv_size.calls (k : Nat) : List (Nat × Sig E.toTys) := [(24, octet_Wide.sig k)]
def packv_size.cuts : List (Cut E (RT E.toTys [(false, .int .i64)])) := []
theorem packv_size.ok (k : Nat) : Okf (XR E) Try.prog 54 (packv_size.sig k) := ⟨fn_ok (C := fun k => tab.ctx fun f => lk f (packv_size.calls k)) (fun k => tie _) k (fun j hj => calls_ok (kc (octet_Wide.ok j) (kn))) 400 Try.func54 (body := packv_size.body) (res := [.tmp 2]) rfl (by kernel_rfl) packv_size.cuts (kn) (fun x => by kernel_rfl), _, Try.func54, by kernel_rfl, by kernel_rfl⟩
/-! ### slices.Grow: function 80 -/
def slices_Grow80.f (k : Nat) (a0 : Unit) (a1 : Int) : Option (List S34) := if a1 < 0 then none else if wrap64 (a1 - (wrap64 (0 - ((0 : Nat) : Int)))) > 0 then (if 0 ≤ ((0 : Nat) : Int) then (if 0 ≤ wrap64 (a1 - (wrap64 (0 - ((0 : Nat) : Int)))) then (if wrap64 (a1 - (wrap64 (0 - ((0 : Nat) : Int)))) ≤ 140737488355328 / ((16 : Nat) : Int) then (if 0 ≤ ((0 : Nat) : Int) then (if ((0 : Nat) : Int) ≤ ((List.replicate (Int.toNat (wrap64 (a1 - (wrap64 (0 - ((0 : Nat) : Int)))))) z34).length : Int) then some ((List.replicate (Int.toNat (wrap64 (a1 - (wrap64 (0 - ((0 : Nat) : Int)))))) z34).take (Int.toNat ((0 : Nat) : Int))) else none) else none) else none) else none) else none) else some []
def slices_Grow80.sig (k : Nat) : Sig E.toTys := ⟨[.em, .int .i64], [(true, .slice (.st 0))], none, fun x => f k x.1 x.2.1⟩
noncomputable def slices_Grow80.body : Code := Try.f80.body.getD .skip
def slices_Grow80.calls (k : Nat) : List (Nat × Sig E.toTys) := []
def slices_Grow80.cuts : List (Cut E (RT E.toTys [(true, .slice (.st 0))])) := []
theorem slices_Grow80.ok (k : Nat) : Okf (XR E) Try.prog 80 (slices_Grow80.sig k) := ⟨fn_ok (C := fun k => tab.ctx fun f => lk f (slices_Grow80.calls k)) (fun k => tie _) k (fun j hj => calls_ok (kn)) 400 Try.func80 (body := slices_Grow80.body) (res := [.tmp 4]) rfl (by kernel_rfl) slices_Grow80.cuts (kn) (fun x => by kernel_rfl), _, Try.func80, by kernel_rfl, by kernel_rfl⟩
/-! ### slices.Concat: function 56 -/
mutual
def slices_Concat56.l3 : Nat → List (List S34) → Int → List (List S34) → Int → Int → Option (List S34)
  | 0, _, _, _, _, _ => none
  | k + 1, x0, x1, x2, x3, x4 => if x4 < x3 then (if 0 ≤ x4 then (if x4 < (x2.length : Int) then (if wrap64 (x1 + ((rdL x2 x4).length : Int)) < 0 then none else slices_Concat56.l3 k x0 (wrap64 (x1 + ((rdL x2 x4).length : Int))) x2 x3 (wrap64 (x4 + 1))) else none) else none) else (slices_Grow80.f k () x1).bind fun r0 => slices_Concat56.l11 k x0 (x0.length : Int) 0 r0
def slices_Concat56.l11 : Nat → List (List S34) → Int → Int → List S34 → Option (List S34)
  | 0, _, _, _, _ => none
  | k + 1, x0, x1, x2, x3 => if x2 < x1 then (if 0 ≤ x2 then (if x2 < (x0.length : Int) then (if x3.length + (rdL x0 x2).length ≤ 140737488355328 / 16 then slices_Concat56.l11 k x0 x1 (wrap64 (x2 + 1)) (x3 ++ (rdL x0 x2)) else none) else none) else none) else some x3
end
def slices_Concat56.f (k : Nat) (a0 : List (List S34)) : Option (List S34) := slices_Concat56.l3 k a0 0 a0 (a0.length : Int) 0
def slices_Concat56.sig (k : Nat) : Sig E.toTys := ⟨[.slice (.slice (.st 0))], [(true, .slice (.st 0))], none, fun x => f k x.1⟩
noncomputable def slices_Concat56.body : Code := Try.f56.body.getD .skip
def slices_Concat56.calls (k : Nat) : List (Nat × Sig E.toTys) := [(80, slices_Grow80.sig k)]
def slices_Concat56.cuts : List (Cut E (RT E.toTys [(true, .slice (.st 0))])) := [⟨true, 3, ⟨cat [.one (.val (.slice (.slice (.st 0))))] (cat (ds 2) (cat [.one (.val (.int .i64))] (cat (ds 5) (cat [.one (.val (.slice (.slice (.st 0)))), .one (.val (.int .i64)), .one (.val (.int .i64))] (ds 24))))), [], false⟩, fun k x => slices_Concat56.l3 k x.1.1 x.1.2.1 x.1.2.2.1 x.1.2.2.2.1 x.1.2.2.2.2.1⟩,
  ⟨true, 11, ⟨cat (ds 6) (cat [.one (.ref 0)] (cat (ds 18) (cat [.one (.val (.slice (.slice (.st 0)))), .one (.val (.int .i64)), .one (.val (.int .i64))] (ds 8)))), [.arr (.st 0)], false⟩, fun k x => slices_Concat56.l11 k x.1.1 x.1.2.1 x.1.2.2.1 x.2.1⟩]
theorem slices_Concat56.ok (k : Nat) : Okf (XR E) Try.prog 56 (slices_Concat56.sig k) := ⟨fn_ok (C := fun k => tab.ctx fun f => lk f (slices_Concat56.calls k)) (fun k => tie _) k (fun j hj => calls_ok (kc (slices_Grow80.ok j) (kn))) 400 Try.func56 (body := slices_Concat56.body) (res := [.tmp 2]) rfl (by kernel_rfl) slices_Concat56.cuts (kc ⟨by kernel_rfl, rfl, fun _ => rfl, fun _ _ => by kernel_rfl⟩ (kc ⟨by kernel_rfl, rfl, fun _ => rfl, fun _ _ => by kernel_rfl⟩ (kn))) (fun x => by kernel_rfl), _, Try.func56, by kernel_rfl, by kernel_rfl⟩
/-! ### steeple/packv.ask$1: function 78 -/
def packv_ask_1.f (k : Nat) (a0 : S34) (a1 : Option Int) : Option Bool := (match a1 with | none => none | some r0 => (octet_Of.f k r0 a0).bind fun r1 => some (!r1))
def packv_ask_1.sig (k : Nat) : Sig E.toTys := ⟨[.st 0, .ptr (.int .i64)], [(false, .bool)], none, fun x => f k x.1 x.2.1⟩
noncomputable def packv_ask_1.body : Code := Try.f78.body.getD .skip
def packv_ask_1.calls (k : Nat) : List (Nat × Sig E.toTys) := [(28, octet_Of.sig k)]
def packv_ask_1.cuts : List (Cut E (RT E.toTys [(false, .bool)])) := []
theorem packv_ask_1.ok (k : Nat) : Okf (XR E) Try.prog 78 (packv_ask_1.sig k) := ⟨fn_ok (C := fun k => tab.ctx fun f => lk f (packv_ask_1.calls k)) (fun k => tie _) k (fun j hj => calls_ok (kc (octet_Of.ok j) (kn))) 400 Try.func78 (body := packv_ask_1.body) (res := [.tmp 3]) rfl (by kernel_rfl) packv_ask_1.cuts (kn) (fun x => by kernel_rfl), _, Try.func78, by kernel_rfl, by kernel_rfl⟩
/-! ### slices.IndexFunc: function 86 -/
def slices_IndexFunc86_c78.l2 : Nat → List S34 → Int → Int → Int → Option Int
  | 0, _, _, _, _ => none
  | k + 1, x0, x1, x2, x3 => if x3 < x2 then (if 0 ≤ x3 then (if x3 < (x0.length : Int) then ((packv_ask_1.f k (rd34 x0 x3) (some x1)).bind fun r0 => if r0 = true then some x3 else slices_IndexFunc86_c78.l2 k x0 x1 x2 (wrap64 (x3 + 1))) else none) else none) else some (-1)
def slices_IndexFunc86_c78.f (k : Nat) (a0 : List S34) (a1 : Int) : Option Int := slices_IndexFunc86_c78.l2 k a0 a1 (a0.length : Int) 0
def slices_IndexFunc86_c78.sig (k : Nat) : Sig E.toTys := ⟨[.slice (.st 0), .ext 78 (.int .i64)], [(false, .int .i64)], none, fun x => f k x.1 x.2.1⟩
noncomputable def slices_IndexFunc86_c78.body : Code := Try.f86.body.getD .skip
def slices_IndexFunc86_c78.calls (k : Nat) : List (Nat × Sig E.toTys) := [(78, packv_ask_1.sig k)]
def slices_IndexFunc86_c78.cuts : List (Cut E (RT E.toTys [(false, .int .i64)])) := [⟨true, 2, ⟨cat [.one (.val (.slice (.st 0))), .one (.val (.ext 78 (.int .i64)))] (cat (ds 5) (cat [.one (.val (.int .i64)), .one (.val (.int .i64))] (ds 10))), [], false⟩, fun k x => slices_IndexFunc86_c78.l2 k x.1.1 x.1.2.1 x.1.2.2.1 x.1.2.2.2.1⟩]
theorem slices_IndexFunc86_c78.ok (k : Nat) : Okf (XR E) Try.prog 86 (slices_IndexFunc86_c78.sig k) := ⟨fn_ok (C := fun k => tab.ctx fun f => lk f (slices_IndexFunc86_c78.calls k)) (fun k => tie _) k (fun j hj => calls_ok (kc (packv_ask_1.ok j) (kn))) 400 Try.func86 (body := slices_IndexFunc86_c78.body) (res := [.tmp 4]) rfl (by kernel_rfl) slices_IndexFunc86_c78.cuts (kc ⟨by kernel_rfl, rfl, fun _ => rfl, fun _ _ => by kernel_rfl⟩ (kn)) (fun x => by kernel_rfl), _, Try.func86, by kernel_rfl, by kernel_rfl⟩
/-! ### slices.ContainsFunc: function 79 -/
def slices_ContainsFunc79_c78.f (k : Nat) (a0 : List S34) (a1 : Int) : Option Bool := (slices_IndexFunc86_c78.f k a0 a1).bind fun r0 => some (decide (r0 ≥ 0))
def slices_ContainsFunc79_c78.sig (k : Nat) : Sig E.toTys := ⟨[.slice (.st 0), .ext 78 (.int .i64)], [(false, .bool)], none, fun x => f k x.1 x.2.1⟩
noncomputable def slices_ContainsFunc79_c78.body : Code := Try.f79.body.getD .skip
def slices_ContainsFunc79_c78.calls (k : Nat) : List (Nat × Sig E.toTys) := [(86, slices_IndexFunc86_c78.sig k)]
def slices_ContainsFunc79_c78.cuts : List (Cut E (RT E.toTys [(false, .bool)])) := []
theorem slices_ContainsFunc79_c78.ok (k : Nat) : Okf (XR E) Try.prog 79 (slices_ContainsFunc79_c78.sig k) := ⟨fn_ok (C := fun k => tab.ctx fun f => lk f (slices_ContainsFunc79_c78.calls k)) (fun k => tie _) k (fun j hj => calls_ok (kc (slices_IndexFunc86_c78.ok j) (kn))) 400 Try.func79 (body := slices_ContainsFunc79_c78.body) (res := [.tmp 4]) rfl (by kernel_rfl) slices_ContainsFunc79_c78.cuts (kn) (fun x => by kernel_rfl), _, Try.func79, by kernel_rfl, by kernel_rfl⟩
/-! ### slices.IndexFunc: function 77 -/
def slices_IndexFunc77_c78.l2 : Nat → List S34 → Int → Int → Int → Option Int
  | 0, _, _, _, _ => none
  | k + 1, x0, x1, x2, x3 => if x3 < x2 then (if 0 ≤ x3 then (if x3 < (x0.length : Int) then ((packv_ask_1.f k (rd34 x0 x3) (some x1)).bind fun r0 => if r0 = true then some x3 else slices_IndexFunc77_c78.l2 k x0 x1 x2 (wrap64 (x3 + 1))) else none) else none) else some (-1)
def slices_IndexFunc77_c78.f (k : Nat) (a0 : List S34) (a1 : Int) : Option Int := slices_IndexFunc77_c78.l2 k a0 a1 (a0.length : Int) 0
def slices_IndexFunc77_c78.sig (k : Nat) : Sig E.toTys := ⟨[.slice (.st 0), .ext 78 (.int .i64)], [(false, .int .i64)], none, fun x => f k x.1 x.2.1⟩
noncomputable def slices_IndexFunc77_c78.body : Code := Try.f77.body.getD .skip
def slices_IndexFunc77_c78.calls (k : Nat) : List (Nat × Sig E.toTys) := [(78, packv_ask_1.sig k)]
def slices_IndexFunc77_c78.cuts : List (Cut E (RT E.toTys [(false, .int .i64)])) := [⟨true, 2, ⟨cat [.one (.val (.slice (.st 0))), .one (.val (.ext 78 (.int .i64)))] (cat (ds 5) (cat [.one (.val (.int .i64)), .one (.val (.int .i64))] (ds 10))), [], false⟩, fun k x => slices_IndexFunc77_c78.l2 k x.1.1 x.1.2.1 x.1.2.2.1 x.1.2.2.2.1⟩]
theorem slices_IndexFunc77_c78.ok (k : Nat) : Okf (XR E) Try.prog 77 (slices_IndexFunc77_c78.sig k) := ⟨fn_ok (C := fun k => tab.ctx fun f => lk f (slices_IndexFunc77_c78.calls k)) (fun k => tie _) k (fun j hj => calls_ok (kc (packv_ask_1.ok j) (kn))) 400 Try.func77 (body := slices_IndexFunc77_c78.body) (res := [.tmp 4]) rfl (by kernel_rfl) slices_IndexFunc77_c78.cuts (kc ⟨by kernel_rfl, rfl, fun _ => rfl, fun _ _ => by kernel_rfl⟩ (kn)) (fun x => by kernel_rfl), _, Try.func77, by kernel_rfl, by kernel_rfl⟩
/-! ### slices.ContainsFunc: function 52 -/
def slices_ContainsFunc52_c78.f (k : Nat) (a0 : List S34) (a1 : Int) : Option Bool := (slices_IndexFunc77_c78.f k a0 a1).bind fun r0 => some (decide (r0 ≥ 0))
def slices_ContainsFunc52_c78.sig (k : Nat) : Sig E.toTys := ⟨[.slice (.st 0), .ext 78 (.int .i64)], [(false, .bool)], none, fun x => f k x.1 x.2.1⟩
noncomputable def slices_ContainsFunc52_c78.body : Code := Try.f52.body.getD .skip
def slices_ContainsFunc52_c78.calls (k : Nat) : List (Nat × Sig E.toTys) := [(77, slices_IndexFunc77_c78.sig k)]
def slices_ContainsFunc52_c78.cuts : List (Cut E (RT E.toTys [(false, .bool)])) := []
theorem slices_ContainsFunc52_c78.ok (k : Nat) : Okf (XR E) Try.prog 52 (slices_ContainsFunc52_c78.sig k) := ⟨fn_ok (C := fun k => tab.ctx fun f => lk f (slices_ContainsFunc52_c78.calls k)) (fun k => tie _) k (fun j hj => calls_ok (kc (slices_IndexFunc77_c78.ok j) (kn))) 400 Try.func52 (body := slices_ContainsFunc52_c78.body) (res := [.tmp 4]) rfl (by kernel_rfl) slices_ContainsFunc52_c78.cuts (kn) (fun x => by kernel_rfl), _, Try.func52, by kernel_rfl, by kernel_rfl⟩
/-! ### steeple/packv.ask: function 55 -/
mutual
def packv_ask.l4 : Nat → List (List S34) → List S34 → List (List S34) → Int → Int → Int → Option Int
  | 0, _, _, _, _, _, _ => none
  | k + 1, x0, x1, x2, x3, x4, x5 => if x4 < x3 then (if 0 ≤ x4 then (if x4 < (x2.length : Int) then ((packv_size.f k x5).bind fun r1 => if ((rdL x2 x4).length : Int) = r1 then packv_ask.l4 k x0 x1 x2 x3 (wrap64 (x4 + 1)) x5 else some 6) else none) else none) else packv_ask.l11 k x1 x0 (x0.length : Int) 0 x5
def packv_ask.l11 : Nat → List S34 → List (List S34) → Int → Int → Int → Option Int
  | 0, _, _, _, _, _ => none
  | k + 1, x0, x1, x2, x3, x4 => if x3 < x2 then (if 0 ≤ x3 then (if x3 < (x1.length : Int) then ((slices_ContainsFunc79_c78.f k (rdL x1 x3) x4).bind fun r2 => if r2 = true then some 5 else packv_ask.l11 k x0 x1 x2 (wrap64 (x3 + 1)) x4) else none) else none) else (slices_ContainsFunc52_c78.f k x0 x4).bind fun r3 => if r3 = true then some 5 else some 0
end
def packv_ask.f (k : Nat) (a0 : Int) (a1 : List (List S34)) (a2 : List S34) : Option Int := (packv_size.f k a0).bind fun r0 => if r0 = 0 then some 1 else packv_ask.l4 k a1 a2 a1 (a1.length : Int) 0 a0
def packv_ask.sig (k : Nat) : Sig E.toTys := ⟨[.int .i64, .slice (.slice (.st 0)), .slice (.st 0)], [(false, .int .i64)], none, fun x => f k x.1 x.2.1 x.2.2.1⟩
noncomputable def packv_ask.body : Code := Try.f55.body.getD .skip
def packv_ask.calls (k : Nat) : List (Nat × Sig E.toTys) := [(54, packv_size.sig k), (79, slices_ContainsFunc79_c78.sig k), (52, slices_ContainsFunc52_c78.sig k)]
def packv_ask.cuts : List (Cut E (RT E.toTys [(false, .int .i64)])) := [⟨true, 4, ⟨cat (ds 1) (cat [.one (.val (.slice (.slice (.st 0)))), .one (.val (.slice (.st 0))), .one (.ptr 0 0)] (cat (ds 11) (cat [.one (.val (.slice (.slice (.st 0)))), .one (.val (.int .i64)), .one (.val (.int .i64))] (ds 23)))), [.var [.val (.int .i64)]], false⟩, fun k x => packv_ask.l4 k x.1.1 x.1.2.1 x.1.2.2.1 x.1.2.2.2.1 x.1.2.2.2.2.1 x.2.1.1⟩,
  ⟨true, 11, ⟨cat (ds 2) (cat [.one (.val (.slice (.st 0)))] (cat (ds 6) (cat [.clo 78 [.ptr 0 0]] (cat (ds 18) (cat [.one (.val (.slice (.slice (.st 0)))), .one (.val (.int .i64)), .one (.val (.int .i64))] (ds 10)))))), [.var [.val (.int .i64)]], false⟩, fun k x => packv_ask.l11 k x.1.1 x.1.2.2.1 x.1.2.2.2.1 x.1.2.2.2.2.1 x.2.1.1⟩]
theorem packv_ask.ok (k : Nat) : Okf (XR E) Try.prog 55 (packv_ask.sig k) := ⟨fn_ok (C := fun k => tab.ctx fun f => lk f (packv_ask.calls k)) (fun k => tie _) k (fun j hj => calls_ok (kc (packv_size.ok j) (kc (slices_ContainsFunc79_c78.ok j) (kc (slices_ContainsFunc52_c78.ok j) (kn))))) 400 Try.func55 (body := packv_ask.body) (res := [.tmp 6]) rfl (by kernel_rfl) packv_ask.cuts (kc ⟨by kernel_rfl, rfl, fun _ => rfl, fun _ _ => by kernel_rfl⟩ (kc ⟨by kernel_rfl, rfl, fun _ => rfl, fun _ _ => by kernel_rfl⟩ (kn))) (fun x => by kernel_rfl), _, Try.func55, by kernel_rfl, by kernel_rfl⟩
/-! ### steeple/tower.Bits: function 82 -/
def tower_Bits.l5 : Nat → Int → Int → Int → Int → List Bool → Option (List Bool)
  | 0, _, _, _, _, _ => none
  | k + 1, x0, x1, x2, x3, x4 => if x1 < x0 then ((tower_Bit.f k x1).bind fun r1 => if x4.length + [!decide (bits .or .u64 (bits .and .u64 x3 r1.f1) (bits .and .u64 x2 r1.f0) = 0)].length ≤ 140737488355328 / 1 then tower_Bits.l5 k x0 (wrap64 (x1 + 1)) x2 x3 (x4 ++ [!decide (bits .or .u64 (bits .and .u64 x3 r1.f1) (bits .and .u64 x2 r1.f0) = 0)]) else none) else some x4
def tower_Bits.f (k : Nat) (a0 : Int) (a1 : S34) : Option (List Bool) := (octet_Of.f k a0 a1).bind fun r0 => if (!r0) = true then some [] else if 0 ≤ a0 then tower_Bits.l5 k (shl .i64 1 a0) 0 a1.f0 a1.f1 [] else none
def tower_Bits.sig (k : Nat) : Sig E.toTys := ⟨[.int .i64, .st 0], [(true, .slice .bool)], none, fun x => f k x.1 x.2.1⟩
noncomputable def tower_Bits.body : Code := Try.f82.body.getD .skip
def tower_Bits.calls (k : Nat) : List (Nat × Sig E.toTys) := [(28, octet_Of.sig k), (19, tower_Bit.sig k)]
def tower_Bits.cuts : List (Cut E (RT E.toTys [(true, .slice .bool)])) := [⟨true, 5, ⟨cat (ds 3) (cat [.one (.ptr 0 0)] (cat (ds 1) (cat [.one (.ref 1)] (cat (ds 7) (cat [.one (.val (.int .i64)), .one (.val (.int .i64))] (ds 21)))))), [.var [.val (.int .u64), .val (.int .u64)], .arr (.bool)], false⟩, fun k x => tower_Bits.l5 k x.1.1 x.1.2.1 x.2.1.1 x.2.1.2.1 x.2.2.1⟩]
theorem tower_Bits.ok (k : Nat) : Okf (XR E) Try.prog 82 (tower_Bits.sig k) := ⟨fn_ok (C := fun k => tab.ctx fun f => lk f (tower_Bits.calls k)) (fun k => tie _) k (fun j hj => calls_ok (kc (octet_Of.ok j) (kc (tower_Bit.ok j) (kn)))) 400 Try.func82 (body := tower_Bits.body) (res := [.tmp 4]) rfl (by kernel_rfl) tower_Bits.cuts (kc ⟨by kernel_rfl, rfl, fun _ => rfl, fun _ _ => by kernel_rfl⟩ (kn)) (fun x => by kernel_rfl), _, Try.func82, by kernel_rfl, by kernel_rfl⟩
/-! ### steeple/packv.Left: function 81 -/
def packv_Left.l5 : Nat → Int → Int → List S34 → List Bool → Option (List S34)
  | 0, _, _, _, _ => none
  | k + 1, x0, x1, x2, x3 => if x1 < x0 then (if 0 ≤ x1 then (if x1 < (x3.length : Int) then (if (rdB x3 x1) = true then ((tower_One.f k).bind fun r3 => if 0 ≤ x1 then (if x1 < (x2.length : Int) then packv_Left.l5 k x0 (wrap64 (x1 + 1)) (x2.set (Int.toNat x1) r3) x3 else none) else none) else packv_Left.l5 k x0 (wrap64 (x1 + 1)) x2 x3) else none) else none) else some x2
def packv_Left.f (k : Nat) (a0 : Int) (a1 : S34) : Option (List S34) := (octet_Of.f k a0 a1).bind fun r0 => if (!r0) = true then some [] else (packv_size.f k a0).bind fun r1 => if 0 ≤ r1 then (if r1 ≤ 140737488355328 / ((16 : Nat) : Int) then ((tower_Bits.f k a0 a1).bind fun r2 => packv_Left.l5 k (r2.length : Int) 0 (List.replicate (Int.toNat r1) z34) r2) else none) else none
def packv_Left.sig (k : Nat) : Sig E.toTys := ⟨[.int .i64, .st 0], [(true, .slice (.st 0))], none, fun x => f k x.1 x.2.1⟩
noncomputable def packv_Left.body : Code := Try.f81.body.getD .skip
def packv_Left.calls (k : Nat) : List (Nat × Sig E.toTys) := [(28, octet_Of.sig k), (54, packv_size.sig k), (82, tower_Bits.sig k), (11, tower_One.sig k)]
def packv_Left.cuts : List (Cut E (RT E.toTys [(true, .slice (.st 0))])) := [⟨true, 5, ⟨cat (ds 5) (cat [.one (.ref 0)] (cat (ds 11) (cat [.one (.ref 1), .one (.val (.int .i64)), .one (.val (.int .i64))] (ds 11)))), [.arr (.st 0), .arr (.bool)], false⟩, fun k x => packv_Left.l5 k x.1.1 x.1.2.1 x.2.1 x.2.2.1⟩]
theorem packv_Left.ok (k : Nat) : Okf (XR E) Try.prog 81 (packv_Left.sig k) := ⟨fn_ok (C := fun k => tab.ctx fun f => lk f (packv_Left.calls k)) (fun k => tie _) k (fun j hj => calls_ok (kc (octet_Of.ok j) (kc (packv_size.ok j) (kc (tower_Bits.ok j) (kc (tower_One.ok j) (kn)))))) 400 Try.func81 (body := packv_Left.body) (res := [.tmp 4]) rfl (by kernel_rfl) packv_Left.cuts (kc ⟨by kernel_rfl, rfl, fun _ => rfl, fun _ _ => by kernel_rfl⟩ (kn)) (fun x => by kernel_rfl), _, Try.func81, by kernel_rfl, by kernel_rfl⟩
/-! ### steeple/packv.One: function 57 -/
def packv_One.f (k : Nat) (a0 : Int) : Option (List S34) := (tower_One.f k).bind fun r0 => (packv_Left.f k a0 r0).bind fun r1 => some r1
def packv_One.sig (k : Nat) : Sig E.toTys := ⟨[.int .i64], [(true, .slice (.st 0))], none, fun x => f k x.1⟩
noncomputable def packv_One.body : Code := Try.f57.body.getD .skip
def packv_One.calls (k : Nat) : List (Nat × Sig E.toTys) := [(11, tower_One.sig k), (81, packv_Left.sig k)]
def packv_One.cuts : List (Cut E (RT E.toTys [(true, .slice (.st 0))])) := []
theorem packv_One.ok (k : Nat) : Okf (XR E) Try.prog 57 (packv_One.sig k) := ⟨fn_ok (C := fun k => tab.ctx fun f => lk f (packv_One.calls k)) (fun k => tie _) k (fun j hj => calls_ok (kc (tower_One.ok j) (kc (packv_Left.ok j) (kn)))) 400 Try.func57 (body := packv_One.body) (res := [.tmp 2]) rfl (by kernel_rfl) packv_One.cuts (kn) (fun x => by kernel_rfl), _, Try.func57, by kernel_rfl, by kernel_rfl⟩
/-! ### slices.Clone: function 58 -/
def slices_Clone58.f (k : Nat) (a0 : List S34) : Option (List S34) := if ([] : List Int).length + a0.length ≤ 140737488355328 / 16 then some ([] ++ a0) else none
def slices_Clone58.sig (k : Nat) : Sig E.toTys := ⟨[.slice (.st 0)], [(true, .slice (.st 0))], none, fun x => f k x.1⟩
noncomputable def slices_Clone58.body : Code := Try.f58.body.getD .skip
def slices_Clone58.calls (k : Nat) : List (Nat × Sig E.toTys) := []
def slices_Clone58.cuts : List (Cut E (RT E.toTys [(true, .slice (.st 0))])) := []
noncomputable def slices_Clone58.fn0 : Func := Try.f58
def slices_Clone58.st0 (xs : List S34) : St E.toTys := ⟨[.c (.s (.val (.slice (.st 0)) xs)), .c (.s .dead), .c (.s .emp), .c (.s .dead), .c (.s .dead), .c (.s .dead), .c (.s .dead), .c (.s .dead)], []⟩
theorem slices_Clone58.ok (k : Nat) : Okf (XR E) Try.prog 58 (slices_Clone58.sig k) := ⟨clone_ok (C := tab.ctx fun f => lk f (slices_Clone58.calls k)) (tie _) (calls_ok kn) (t := 70) (u := .st 0) Try.func58 rfl (res := [.tmp 2]) (by kernel_rfl) ⟨rfl, rfl, rfl⟩ ⟨rfl, rfl, rfl⟩ (by kernel_rfl) slices_Clone58.st0 (fun x => by kernel_rfl) (fun _ => rfl) (fun _ _ => ⟨rfl, rfl⟩) (F := fun x => slices_Clone58.f k x) (by kernel_rfl) (fun xs => by kernel_rfl), _, Try.func58, by kernel_rfl, by kernel_rfl⟩
/-! ### steeple/packv.byLeft: function 59 -/
mutual
def packv_byLeft.l2 : Nat → Int → List S34 → Int → Int → List S34 → Int → Int → Int → Int → Option (List S34)
  | 0, _, _, _, _, _, _, _, _, _ => none
  | k + 1, x0, x1, x2, x3, x4, x5, x6, x7, x8 => if x3 < x2 then (if 0 ≤ x3 then (if x3 < (x1.length : Int) then ((tower_Mul.f k x0 (rd34 x1 x3) (⟨x7, x8⟩ : S34)).bind fun r0 => if r0.f0 = 0 ∧ r0.f1 = 0 then packv_byLeft.l2 k x0 x1 x2 (wrap64 (x3 + 1)) x4 x5 x6 x7 x8 else (tower_Bit.f k x3).bind fun r1 => (tower_Mul.f k x0 r1 (⟨x5, x6⟩ : S34)).bind fun r2 => (tower_Bits.f k x0 r2).bind fun r3 => packv_byLeft.l7 k x0 x1 x2 x3 (r3.length : Int) 0 x4 x5 x6 x7 x8 r0.f0 r0.f1 r3) else none) else none) else some x4
def packv_byLeft.l7 : Nat → Int → List S34 → Int → Int → Int → Int → List S34 → Int → Int → Int → Int → Int → Int → List Bool → Option (List S34)
  | 0, _, _, _, _, _, _, _, _, _, _, _, _, _, _ => none
  | k + 1, x0, x1, x2, x3, x4, x5, x6, x7, x8, x9, x10, x11, x12, x13 => if x5 < x4 then (if 0 ≤ x5 then (if x5 < (x13.length : Int) then (if (rdB x13 x5) = true then (if 0 ≤ x5 then (if x5 < (x6.length : Int) then ((tower_Add.f k (rd34 x6 x5) (⟨x11, x12⟩ : S34)).bind fun r4 => if 0 ≤ x5 then (if x5 < (x6.length : Int) then packv_byLeft.l7 k x0 x1 x2 x3 x4 (wrap64 (x5 + 1)) (x6.set (Int.toNat x5) r4) x7 x8 x9 x10 x11 x12 x13 else none) else none) else none) else none) else packv_byLeft.l7 k x0 x1 x2 x3 x4 (wrap64 (x5 + 1)) x6 x7 x8 x9 x10 x11 x12 x13) else none) else none) else packv_byLeft.l2 k x0 x1 x2 (wrap64 (x3 + 1)) x6 x7 x8 x9 x10
end
def packv_byLeft.f (k : Nat) (a0 : Int) (a1 : List S34) (a2 : List S34) (a3 : S34) (a4 : S34) : Option (List S34) := packv_byLeft.l2 k a0 a2 (a2.length : Int) 0 a1 a3.f0 a3.f1 a4.f0 a4.f1
def packv_byLeft.sig (k : Nat) : Sig E.toTys := ⟨[.int .i64, .slice (.st 0), .slice (.st 0), .st 0, .st 0], [(true, .slice (.st 0))], some 1, fun x => f k x.1 x.2.1 x.2.2.1 x.2.2.2.1 x.2.2.2.2.1⟩
noncomputable def packv_byLeft.body : Code := Try.f59.body.getD .skip
def packv_byLeft.calls (k : Nat) : List (Nat × Sig E.toTys) := [(10, tower_Mul.sig k), (19, tower_Bit.sig k), (82, tower_Bits.sig k), (18, tower_Add.sig k)]
def packv_byLeft.cuts : List (Cut E (RT E.toTys [(true, .slice (.st 0))])) := [⟨true, 2, ⟨cat [.one (.val (.int .i64)), .one (.ref 0)] (cat (ds 6) (cat [.one (.ptr 1 0), .one (.ptr 2 0)] (cat (ds 5) (cat [.one (.val (.slice (.st 0))), .one (.val (.int .i64)), .one (.val (.int .i64))] (ds 36))))), [.arr (.st 0), .var [.val (.int .u64), .val (.int .u64)], .var [.val (.int .u64), .val (.int .u64)]], true⟩, fun k x => packv_byLeft.l2 k x.1.1 x.1.2.1 x.1.2.2.1 x.1.2.2.2.1 x.2.1 x.2.2.1.1 x.2.2.1.2.1 x.2.2.2.1.1 x.2.2.2.1.2.1⟩,
  ⟨true, 7, ⟨cat [.one (.val (.int .i64)), .one (.ref 0)] (cat (ds 6) (cat [.one (.ptr 1 0), .one (.ptr 2 0)] (cat (ds 2) (cat [.one (.ptr 3 0)] (cat (ds 2) (cat [.one (.val (.slice (.st 0))), .one (.val (.int .i64)), .one (.val (.int .i64))] (cat (ds 17) (cat [.one (.ref 4), .one (.val (.int .i64)), .one (.val (.int .i64))] (ds 16))))))))), [.arr (.st 0), .var [.val (.int .u64), .val (.int .u64)], .var [.val (.int .u64), .val (.int .u64)], .var [.val (.int .u64), .val (.int .u64)], .arr (.bool)], true⟩, fun k x => packv_byLeft.l7 k x.1.1 x.1.2.1 x.1.2.2.1 x.1.2.2.2.1 x.1.2.2.2.2.1 x.1.2.2.2.2.2.1 x.2.1 x.2.2.1.1 x.2.2.1.2.1 x.2.2.2.1.1 x.2.2.2.1.2.1 x.2.2.2.2.1.1 x.2.2.2.2.1.2.1 x.2.2.2.2.2.1⟩]
theorem packv_byLeft.ok (k : Nat) : Okf (XR E) Try.prog 59 (packv_byLeft.sig k) := ⟨fn_okIO (C := fun k => tab.ctx fun f => lk f (packv_byLeft.calls k)) (fun k => tie _) k (fun j hj => calls_ok (kc (tower_Mul.ok j) (kc (tower_Bit.ok j) (kc (tower_Bits.ok j) (kc (tower_Add.ok j) (kn)))))) 400 1 Try.func59 (body := packv_byLeft.body) (res := []) rfl (by kernel_rfl) packv_byLeft.cuts (kc ⟨by kernel_rfl, rfl, fun _ => rfl, fun _ _ => by kernel_rfl⟩ (kc ⟨by kernel_rfl, rfl, fun _ => rfl, fun _ _ => by kernel_rfl⟩ (kn))) (fun x => by kernel_rfl), _, Try.func59, by kernel_rfl, by kernel_rfl⟩
/-! ### steeple/packv.Alike: function 36 -/
mutual
def packv_Alike.l10 : Nat → Int → List S34 → List S34 → Int → Int → List S34 → Option ((List S34) × Int)
  | 0, _, _, _, _, _, _ => none
  | k + 1, x0, x1, x2, x3, x4, x5 => if x4 < x3 then ((slices_Clone58.f k x5).bind fun r4 => if 0 ≤ x4 then (if x4 < (x1.length : Int) then ((tower_One.f k).bind fun r5 => (packv_byLeft.f k x0 r4 x5 (rd34 x1 x4) r5).bind fun r6 => packv_Alike.l15 k x0 x1 x2 x4 x3 x4 (x5.length : Int) 0 r6 x5) else none) else none) else some (x5, 0)
def packv_Alike.l15 : Nat → Int → List S34 → List S34 → Int → Int → Int → Int → Int → List S34 → List S34 → Option ((List S34) × Int)
  | 0, _, _, _, _, _, _, _, _, _, _ => none
  | k + 1, x0, x1, x2, x3, x4, x5, x6, x7, x8, x9 => if x7 < x6 then (if 0 ≤ x7 then (if x7 < (x9.length : Int) then (if 0 ≤ x7 then (if x7 < (x8.length : Int) then (if 0 ≤ x3 then (if x3 < (x2.length : Int) then ((tower_Mul.f k x0 (rd34 x9 x7) (rd34 x2 x3)).bind fun r7 => (tower_Add.f k (rd34 x8 x7) r7).bind fun r8 => if 0 ≤ x7 then (if x7 < (x8.length : Int) then packv_Alike.l15 k x0 x1 x2 x3 x4 x5 x6 (wrap64 (x7 + 1)) (x8.set (Int.toNat x7) r8) x9 else none) else none) else none) else none) else none) else none) else none) else none) else packv_Alike.l10 k x0 x1 x2 x4 (wrap64 (x5 + 1)) x8
end
def packv_Alike.f (k : Nat) (a0 : Int) (a1 : List S34) (a2 : List S34) : Option ((List S34) × Int) := (packv_size.f k a0).bind fun r0 => if r0 = 0 then some ([], 1) else if (a1.length : Int) = (a2.length : Int) then (if (a1.length : Int) > 16 then some ([], 6) else (slices_Concat56.f k [a1, a2]).bind fun r1 => (packv_ask.f k a0 [] r1).bind fun r2 => if r2 = 0 then ((packv_One.f k a0).bind fun r3 => packv_Alike.l10 k a0 a1 a2 (a1.length : Int) 0 r3) else some ([], r2)) else some ([], 6)
def packv_Alike.sig (k : Nat) : Sig E.toTys := ⟨[.int .i64, .slice (.st 0), .slice (.st 0)], [(true, .slice (.st 0)), (false, .int .i64)], none, fun x => f k x.1 x.2.1 x.2.2.1⟩
noncomputable def packv_Alike.body : Code := Try.f36.body.getD .skip
def packv_Alike.calls (k : Nat) : List (Nat × Sig E.toTys) := [(54, packv_size.sig k), (56, slices_Concat56.sig k), (55, packv_ask.sig k), (57, packv_One.sig k), (58, slices_Clone58.sig k), (11, tower_One.sig k), (59, packv_byLeft.sig k), (10, tower_Mul.sig k), (18, tower_Add.sig k)]
def packv_Alike.cuts : List (Cut E (RT E.toTys [(true, .slice (.st 0)), (false, .int .i64)])) := [⟨true, 10, ⟨cat [.one (.val (.int .i64)), .one (.val (.slice (.st 0))), .one (.val (.slice (.st 0)))] (cat (ds 6) (cat [.one (.ref 0)] (cat (ds 31) (cat [.one (.val (.int .i64)), .one (.val (.int .i64))] (ds 39))))), [.arr (.st 0)], false⟩, fun k x => packv_Alike.l10 k x.1.1 x.1.2.1 x.1.2.2.1 x.1.2.2.2.1 x.1.2.2.2.2.1 x.2.1⟩,
  ⟨true, 15, ⟨cat [.one (.val (.int .i64)), .one (.val (.slice (.st 0))), .one (.val (.slice (.st 0)))] (cat (ds 7) (cat [.one (.val (.int .i64)), .one (.ref 0)] (cat (ds 29) (cat [.one (.val (.int .i64)), .one (.val (.int .i64))] (cat (ds 13) (cat [.one (.ref 1), .one (.val (.int .i64)), .one (.val (.int .i64))] (ds 23))))))), [.arr (.st 0), .arr (.st 0)], false⟩, fun k x => packv_Alike.l15 k x.1.1 x.1.2.1 x.1.2.2.1 x.1.2.2.2.1 x.1.2.2.2.2.1 x.1.2.2.2.2.2.1 x.1.2.2.2.2.2.2.1 x.1.2.2.2.2.2.2.2.1 x.2.1 x.2.2.1⟩]
theorem packv_Alike.ok (k : Nat) : Okf (XR E) Try.prog 36 (packv_Alike.sig k) := ⟨fn_ok (C := fun k => tab.ctx fun f => lk f (packv_Alike.calls k)) (fun k => tie _) k (fun j hj => calls_ok (kc (packv_size.ok j) (kc (slices_Concat56.ok j) (kc (packv_ask.ok j) (kc (packv_One.ok j) (kc (slices_Clone58.ok j) (kc (tower_One.ok j) (kc (packv_byLeft.ok j) (kc (tower_Mul.ok j) (kc (tower_Add.ok j) (kn))))))))))) 400 Try.func36 (body := packv_Alike.body) (res := [.tmp 6, .tmp 7]) rfl (by kernel_rfl) packv_Alike.cuts (kc ⟨by kernel_rfl, rfl, fun _ => rfl, fun _ _ => by kernel_rfl⟩ (kc ⟨by kernel_rfl, rfl, fun _ => rfl, fun _ _ => by kernel_rfl⟩ (kn))) (fun x => by kernel_rfl), _, Try.func36, by kernel_rfl, by kernel_rfl⟩
/-! ### steeple/tower.Dot: function 60 -/
def tower_Dot.l5 : Nat → Int → List S34 → List S34 → Int → Int → Int → Int → Int → Int → Option S34
  | 0, _, _, _, _, _, _, _, _, _ => none
  | k + 1, x0, x1, x2, x3, x4, x5, x6, x7, x8 => if x4 < x3 then (if 0 ≤ x4 then (if x4 < (x1.length : Int) then ((octet_Of.f k x0 (rd34 x1 x4)).bind fun r0 => if (!r0) = true then some (⟨0, 0⟩ : S34) else if 0 ≤ x4 then (if x4 < (x2.length : Int) then ((octet_Of.f k x0 (rd34 x2 x4)).bind fun r1 => if (!r1) = true then some (⟨0, 0⟩ : S34) else if 0 ≤ x4 then (if x4 < (x1.length : Int) then (if 0 ≤ x4 then (if x4 < (x2.length : Int) then ((tower_Mul.f k x0 (rd34 x1 x4) (rd34 x2 x4)).bind fun r2 => (tower_Add.f k (⟨x7, x8⟩ : S34) r2).bind fun r3 => tower_Dot.l5 k x0 x1 x2 x3 (wrap64 (x4 + 1)) x5 x6 r3.f0 r3.f1) else none) else none) else none) else none) else none) else none) else none) else none) else some (⟨x7, x8⟩ : S34)
def tower_Dot.f (k : Nat) (a0 : Int) (a1 : List S34) (a2 : List S34) : Option S34 := if (a1.length : Int) = (a2.length : Int) then tower_Dot.l5 k a0 a1 a2 (a1.length : Int) 0 0 0 0 0 else some (⟨0, 0⟩ : S34)
def tower_Dot.sig (k : Nat) : Sig E.toTys := ⟨[.int .i64, .slice (.st 0), .slice (.st 0)], [(false, .st 0)], none, fun x => f k x.1 x.2.1 x.2.2.1⟩
noncomputable def tower_Dot.body : Code := Try.f60.body.getD .skip
def tower_Dot.calls (k : Nat) : List (Nat × Sig E.toTys) := [(28, octet_Of.sig k), (10, tower_Mul.sig k), (18, tower_Add.sig k)]
def tower_Dot.cuts : List (Cut E (RT E.toTys [(false, .st 0)])) := [⟨true, 5, ⟨cat [.one (.val (.int .i64)), .one (.val (.slice (.st 0))), .one (.val (.slice (.st 0)))] (cat (ds 3) (cat [.one (.ptr 0 0), .one (.ptr 1 0)] (cat (ds 8) (cat [.one (.val (.int .i64)), .one (.val (.int .i64))] (ds 33))))), [.var [.val (.int .u64), .val (.int .u64)], .var [.val (.int .u64), .val (.int .u64)]], false⟩, fun k x => tower_Dot.l5 k x.1.1 x.1.2.1 x.1.2.2.1 x.1.2.2.2.1 x.1.2.2.2.2.1 x.2.1.1 x.2.1.2.1 x.2.2.1.1 x.2.2.1.2.1⟩]
theorem tower_Dot.ok (k : Nat) : Okf (XR E) Try.prog 60 (tower_Dot.sig k) := ⟨fn_ok (C := fun k => tab.ctx fun f => lk f (tower_Dot.calls k)) (fun k => tie _) k (fun j hj => calls_ok (kc (octet_Of.ok j) (kc (tower_Mul.ok j) (kc (tower_Add.ok j) (kn))))) 400 Try.func60 (body := tower_Dot.body) (res := [.cell 6 34]) rfl (by kernel_rfl) tower_Dot.cuts (kc ⟨by kernel_rfl, rfl, fun _ => rfl, fun _ _ => by kernel_rfl⟩ (kn)) (fun x => by kernel_rfl), _, Try.func60, by kernel_rfl, by kernel_rfl⟩
/-! ### steeple/packv.Fold: function 37 -/
def packv_Fold.f (k : Nat) (a0 : Int) (a1 : List S34) (a2 : List S34) : Option (S34 × Int) := (packv_ask.f k a0 [a1, a2] []).bind fun r0 => if r0 = 0 then ((tower_Dot.f k a0 a1 a2).bind fun r1 => some (r1, 0)) else some ((⟨0, 0⟩ : S34), r0)
def packv_Fold.sig (k : Nat) : Sig E.toTys := ⟨[.int .i64, .slice (.st 0), .slice (.st 0)], [(false, .st 0), (false, .int .i64)], none, fun x => f k x.1 x.2.1 x.2.2.1⟩
noncomputable def packv_Fold.body : Code := Try.f37.body.getD .skip
def packv_Fold.calls (k : Nat) : List (Nat × Sig E.toTys) := [(55, packv_ask.sig k), (60, tower_Dot.sig k)]
def packv_Fold.cuts : List (Cut E (RT E.toTys [(false, .st 0), (false, .int .i64)])) := []
theorem packv_Fold.ok (k : Nat) : Okf (XR E) Try.prog 37 (packv_Fold.sig k) := ⟨fn_ok (C := fun k => tab.ctx fun f => lk f (packv_Fold.calls k)) (fun k => tie _) k (fun j hj => calls_ok (kc (packv_ask.ok j) (kc (tower_Dot.ok j) (kn)))) 400 Try.func37 (body := packv_Fold.body) (res := [.cell 6 34, .tmp 7]) rfl (by kernel_rfl) packv_Fold.cuts (kn) (fun x => by kernel_rfl), _, Try.func37, by kernel_rfl, by kernel_rfl⟩
/-! ### steeple/ring.At: function 15 -/
def ring_At.f (k : Nat) (a0 : Int) (a1 : List S34) (a2 : List S34) (a3 : List S34) : Option (S34 × Int) := (ring_mayMask.f k a0 a1 a2).bind fun r0 => if r0 = 0 then (if (a3.length : Int) = (a1.length : Int) then ((ring_of.f k a0 a3).bind fun r1 => if (!r1) = true then some ((⟨0, 0⟩ : S34), 5) else (packv_Alike.f k a0 a1 a3).bind fun r2 => (cube_Weights.f k a0 a2).bind fun r3 => (packv_Fold.f k a0 r2.1 r3).bind fun r4 => some (r4.1, r4.2)) else some ((⟨0, 0⟩ : S34), 6)) else some ((⟨0, 0⟩ : S34), r0)
def ring_At.sig (k : Nat) : Sig E.toTys := ⟨[.int .i64, .slice (.st 0), .slice (.st 0), .slice (.st 0)], [(false, .st 0), (false, .int .i64)], none, fun x => f k x.1 x.2.1 x.2.2.1 x.2.2.2.1⟩
noncomputable def ring_At.body : Code := Try.f15.body.getD .skip
def ring_At.calls (k : Nat) : List (Nat × Sig E.toTys) := [(32, ring_mayMask.sig k), (35, ring_of.sig k), (36, packv_Alike.sig k), (33, cube_Weights.sig k), (37, packv_Fold.sig k)]
def ring_At.cuts : List (Cut E (RT E.toTys [(false, .st 0), (false, .int .i64)])) := []
theorem ring_At.ok (k : Nat) : Okf (XR E) Try.prog 15 (ring_At.sig k) := ⟨fn_ok (C := fun k => tab.ctx fun f => lk f (ring_At.calls k)) (fun k => tie _) k (fun j hj => calls_ok (kc (ring_mayMask.ok j) (kc (ring_of.ok j) (kc (packv_Alike.ok j) (kc (cube_Weights.ok j) (kc (packv_Fold.ok j) (kn))))))) 400 Try.func15 (body := ring_At.body) (res := [.cell 8 34, .tmp 9]) rfl (by kernel_rfl) ring_At.cuts (kn) (fun x => by kernel_rfl), _, Try.func15, by kernel_rfl, by kernel_rfl⟩
/-! ### steeple/cube.ask: function 61 -/
def cube_ask.f (k : Nat) (a0 : Int) (a1 : List S34) (a2 : List S34) : Option Int := (cube_Log.f k (a1.length : Int)).bind fun r0 => (octet_Wide.f k a0).bind fun r1 => if r1 = 0 then some 1 else if r0 < 0 then some 6 else if (a2.length : Int) > r0 then some 6 else (cube_of.f k a0 a1).bind fun r2 => if (!r2) = true then some 5 else (cube_of.f k a0 a2).bind fun r3 => if (!r3) = true then some 5 else some 0
def cube_ask.sig (k : Nat) : Sig E.toTys := ⟨[.int .i64, .slice (.st 0), .slice (.st 0)], [(false, .int .i64)], none, fun x => f k x.1 x.2.1 x.2.2.1⟩
noncomputable def cube_ask.body : Code := Try.f61.body.getD .skip
def cube_ask.calls (k : Nat) : List (Nat × Sig E.toTys) := [(38, cube_Log.sig k), (24, octet_Wide.sig k), (49, cube_of.sig k)]
def cube_ask.cuts : List (Cut E (RT E.toTys [(false, .int .i64)])) := []
theorem cube_ask.ok (k : Nat) : Okf (XR E) Try.prog 61 (cube_ask.sig k) := ⟨fn_ok (C := fun k => tab.ctx fun f => lk f (cube_ask.calls k)) (fun k => tie _) k (fun j hj => calls_ok (kc (cube_Log.ok j) (kc (octet_Wide.ok j) (kc (cube_of.ok j) (kn))))) 400 Try.func61 (body := cube_ask.body) (res := [.tmp 6]) rfl (by kernel_rfl) cube_ask.cuts (kn) (fun x => by kernel_rfl), _, Try.func61, by kernel_rfl, by kernel_rfl⟩
/-! ### steeple/cube.between: function 63 -/
def cube_between.f (k : Nat) (a0 : Int) (a1 : S34) (a2 : S34) (a3 : S34) : Option S34 := (tower_Add.f k a1 a2).bind fun r0 => (tower_Mul.f k a0 a3 r0).bind fun r1 => (tower_Add.f k a1 r1).bind fun r2 => some r2
def cube_between.sig (k : Nat) : Sig E.toTys := ⟨[.int .i64, .st 0, .st 0, .st 0], [(false, .st 0)], none, fun x => f k x.1 x.2.1 x.2.2.1 x.2.2.2.1⟩
noncomputable def cube_between.body : Code := Try.f63.body.getD .skip
def cube_between.calls (k : Nat) : List (Nat × Sig E.toTys) := [(18, tower_Add.sig k), (10, tower_Mul.sig k)]
def cube_between.cuts : List (Cut E (RT E.toTys [(false, .st 0)])) := []
theorem cube_between.ok (k : Nat) : Okf (XR E) Try.prog 63 (cube_between.sig k) := ⟨fn_ok (C := fun k => tab.ctx fun f => lk f (cube_between.calls k)) (fun k => tie _) k (fun j hj => calls_ok (kc (tower_Add.ok j) (kc (tower_Mul.ok j) (kn)))) 400 Try.func63 (body := cube_between.body) (res := [.cell 8 34]) rfl (by kernel_rfl) cube_between.cuts (kn) (fun x => by kernel_rfl), _, Try.func63, by kernel_rfl, by kernel_rfl⟩
/-! ### steeple/cube.First: function 39 -/
mutual
def cube_First.l6 : Nat → Int → List S34 → Int → Int → List S34 → Option ((List S34) × Int)
  | 0, _, _, _, _, _ => none
  | k + 1, x0, x1, x2, x3, x4 => if x3 < x2 then (if 0 ≤ x3 then (if x3 < (x1.length : Int) then cube_First.l10 k x0 (wrap64 (Int.tdiv (x4.length : Int) 2)) x1 x2 x3 (wrap64 (Int.tdiv (x4.length : Int) 2)) 0 x4 (rd34 x1 x3).f0 (rd34 x1 x3).f1 else none) else none) else some (x4, 0)
def cube_First.l10 : Nat → Int → Int → List S34 → Int → Int → Int → Int → List S34 → Int → Int → Option ((List S34) × Int)
  | 0, _, _, _, _, _, _, _, _, _, _ => none
  | k + 1, x0, x1, x2, x3, x4, x5, x6, x7, x8, x9 => if x6 < x5 then (if 0 ≤ wrap64 (2 * x6) then (if wrap64 (2 * x6) < (x7.length : Int) then (if 0 ≤ wrap64 ((wrap64 (2 * x6)) + 1) then (if wrap64 ((wrap64 (2 * x6)) + 1) < (x7.length : Int) then ((cube_between.f k x0 (rd34 x7 (wrap64 (2 * x6))) (rd34 x7 (wrap64 ((wrap64 (2 * x6)) + 1))) (⟨x8, x9⟩ : S34)).bind fun r2 => if 0 ≤ x6 then (if x6 < (x7.length : Int) then cube_First.l10 k x0 x1 x2 x3 x4 x5 (wrap64 (x6 + 1)) (x7.set (Int.toNat x6) r2) x8 x9 else none) else none) else none) else none) else none) else none) else if 0 ≤ x1 then (if x1 ≤ (x7.length : Int) then cube_First.l6 k x0 x2 x3 (wrap64 (x4 + 1)) (x7.take (Int.toNat x1)) else none) else none
end
def cube_First.f (k : Nat) (a0 : Int) (a1 : List S34) (a2 : List S34) : Option ((List S34) × Int) := (cube_ask.f k a0 a1 a2).bind fun r0 => if r0 = 0 then ((slices_Clone62.f k a1).bind fun r1 => cube_First.l6 k a0 a2 (a2.length : Int) 0 r1) else some ([], r0)
def cube_First.sig (k : Nat) : Sig E.toTys := ⟨[.int .i64, .slice (.st 0), .slice (.st 0)], [(true, .slice (.st 0)), (false, .int .i64)], none, fun x => f k x.1 x.2.1 x.2.2.1⟩
noncomputable def cube_First.body : Code := Try.f39.body.getD .skip
def cube_First.calls (k : Nat) : List (Nat × Sig E.toTys) := [(61, cube_ask.sig k), (62, slices_Clone62.sig k), (63, cube_between.sig k)]
def cube_First.cuts : List (Cut E (RT E.toTys [(true, .slice (.st 0)), (false, .int .i64)])) := [⟨true, 6, ⟨cat [.one (.val (.int .i64))] (cat (ds 8) (cat [.one (.ref 0)] (cat (ds 13) (cat [.one (.val (.slice (.st 0))), .one (.val (.int .i64)), .one (.val (.int .i64))] (ds 33))))), [.arr (.st 0)], false⟩, fun k x => cube_First.l6 k x.1.1 x.1.2.1 x.1.2.2.1 x.1.2.2.2.1 x.2.1⟩,
  ⟨true, 10, ⟨cat [.one (.val (.int .i64))] (cat (ds 8) (cat [.one (.ref 0)] (cat (ds 1) (cat [.one (.ptr 1 0), .one (.val (.int .i64))] (cat (ds 10) (cat [.one (.val (.slice (.st 0))), .one (.val (.int .i64)), .one (.val (.int .i64))] (cat (ds 6) (cat [.one (.val (.int .i64)), .one (.val (.int .i64))] (ds 25))))))))), [.arr (.st 0), .var [.val (.int .u64), .val (.int .u64)]], false⟩, fun k x => cube_First.l10 k x.1.1 x.1.2.1 x.1.2.2.1 x.1.2.2.2.1 x.1.2.2.2.2.1 x.1.2.2.2.2.2.1 x.1.2.2.2.2.2.2.1 x.2.1 x.2.2.1.1 x.2.2.1.2.1⟩]
theorem cube_First.ok (k : Nat) : Okf (XR E) Try.prog 39 (cube_First.sig k) := ⟨fn_ok (C := fun k => tab.ctx fun f => lk f (cube_First.calls k)) (fun k => tie _) k (fun j hj => calls_ok (kc (cube_ask.ok j) (kc (slices_Clone62.ok j) (kc (cube_between.ok j) (kn))))) 400 Try.func39 (body := cube_First.body) (res := [.tmp 6, .tmp 7]) rfl (by kernel_rfl) cube_First.cuts (kc ⟨by kernel_rfl, rfl, fun _ => rfl, fun _ _ => by kernel_rfl⟩ (kc ⟨by kernel_rfl, rfl, fun _ => rfl, fun _ _ => by kernel_rfl⟩ (kn))) (fun x => by kernel_rfl), _, Try.func39, by kernel_rfl, by kernel_rfl⟩
/-! ### steeple/cube.At: function 16 -/
def cube_At.f (k : Nat) (a0 : Int) (a1 : List S34) (a2 : List S34) : Option (S34 × Int) := (octet_Wide.f k a0).bind fun r0 => if r0 = 0 then some ((⟨0, 0⟩ : S34), 1) else (cube_Log.f k (a1.length : Int)).bind fun r1 => if r1 = (a2.length : Int) then ((cube_First.f k a0 a1 a2).bind fun r2 => if r2.2 = 0 then (if 0 < (r2.1.length : Int) then some (rd34 r2.1 (0 : Int), 0) else none) else some ((⟨0, 0⟩ : S34), r2.2)) else some ((⟨0, 0⟩ : S34), 6)
def cube_At.sig (k : Nat) : Sig E.toTys := ⟨[.int .i64, .slice (.st 0), .slice (.st 0)], [(false, .st 0), (false, .int .i64)], none, fun x => f k x.1 x.2.1 x.2.2.1⟩
noncomputable def cube_At.body : Code := Try.f16.body.getD .skip
def cube_At.calls (k : Nat) : List (Nat × Sig E.toTys) := [(24, octet_Wide.sig k), (38, cube_Log.sig k), (39, cube_First.sig k)]
def cube_At.cuts : List (Cut E (RT E.toTys [(false, .st 0), (false, .int .i64)])) := []
theorem cube_At.ok (k : Nat) : Okf (XR E) Try.prog 16 (cube_At.sig k) := ⟨fn_ok (C := fun k => tab.ctx fun f => lk f (cube_At.calls k)) (fun k => tie _) k (fun j hj => calls_ok (kc (octet_Wide.ok j) (kc (cube_Log.ok j) (kc (cube_First.ok j) (kn))))) 400 Try.func16 (body := cube_At.body) (res := [.cell 6 34, .tmp 7]) rfl (by kernel_rfl) cube_At.cuts (kn) (fun x => by kernel_rfl), _, Try.func16, by kernel_rfl, by kernel_rfl⟩
/-! ### steeple/ring.Parts: function 17 -/
mutual
def ring_Parts.l10 : Nat → Int → List Bool → Int → Int → List S34 → List S34 → Option ((List S34) × Int)
  | 0, _, _, _, _, _, _ => none
  | k + 1, x0, x1, x2, x3, x4, x5 => if x3 < x2 then (if 0 ≤ x3 then (if x3 < (x5.length : Int) then ring_Parts.l13 k x0 x1 x3 x2 x3 (x4.length : Int) 0 x4 (rd34 x5 x3).f0 (rd34 x5 x3).f1 x5 else none) else none) else some (x4, 0)
def ring_Parts.l13 : Nat → Int → List Bool → Int → Int → Int → Int → Int → List S34 → Int → Int → List S34 → Option ((List S34) × Int)
  | 0, _, _, _, _, _, _, _, _, _, _, _ => none
  | k + 1, x0, x1, x2, x3, x4, x5, x6, x7, x8, x9, x10 => if x6 < x5 then (if 0 ≤ x0 then (if 0 ≤ wrap64 ((shl .i64 x2 x0) + x6) then (if wrap64 ((shl .i64 x2 x0) + x6) < (x1.length : Int) then (if (rdB x1 (wrap64 ((shl .i64 x2 x0) + x6))) = true then (if 0 ≤ x6 then (if x6 < (x7.length : Int) then ((tower_Add.f k (rd34 x7 x6) (⟨x8, x9⟩ : S34)).bind fun r4 => if 0 ≤ x6 then (if x6 < (x7.length : Int) then ring_Parts.l13 k x0 x1 x2 x3 x4 x5 (wrap64 (x6 + 1)) (x7.set (Int.toNat x6) r4) x8 x9 x10 else none) else none) else none) else none) else ring_Parts.l13 k x0 x1 x2 x3 x4 x5 (wrap64 (x6 + 1)) x7 x8 x9 x10) else none) else none) else none) else ring_Parts.l10 k x0 x1 x3 (wrap64 (x4 + 1)) x7 x10
end
def ring_Parts.f (k : Nat) (a0 : Int) (a1 : List Bool) (a2 : List S34) : Option ((List S34) × Int) := (ring_ask.f k a0 a1).bind fun r0 => if r0 = 0 then ((cube_Log.f k (a1.length : Int)).bind fun r1 => if (a2.length : Int) = wrap64 (r1 - a0) then ((ring_of.f k a0 a2).bind fun r2 => if (!r2) = true then some ([], 5) else if 0 ≤ a0 then (if 0 ≤ shl .i64 1 a0 then (if shl .i64 1 a0 ≤ 140737488355328 / ((16 : Nat) : Int) then ((cube_Weights.f k a0 a2).bind fun r3 => ring_Parts.l10 k a0 a1 (r3.length : Int) 0 (List.replicate (Int.toNat (shl .i64 1 a0)) z34) r3) else none) else none) else none) else some ([], 6)) else some ([], r0)
def ring_Parts.sig (k : Nat) : Sig E.toTys := ⟨[.int .i64, .slice .bool, .slice (.st 0)], [(true, .slice (.st 0)), (false, .int .i64)], none, fun x => f k x.1 x.2.1 x.2.2.1⟩
noncomputable def ring_Parts.body : Code := Try.f17.body.getD .skip
def ring_Parts.calls (k : Nat) : List (Nat × Sig E.toTys) := [(22, ring_ask.sig k), (38, cube_Log.sig k), (35, ring_of.sig k), (33, cube_Weights.sig k), (18, tower_Add.sig k)]
def ring_Parts.cuts : List (Cut E (RT E.toTys [(true, .slice (.st 0)), (false, .int .i64)])) := [⟨true, 10, ⟨cat [.one (.val (.int .i64)), .one (.val (.slice .bool))] (cat (ds 7) (cat [.one (.ref 0)] (cat (ds 29) (cat [.one (.ref 1), .one (.val (.int .i64)), .one (.val (.int .i64))] (ds 29))))), [.arr (.st 0), .arr (.st 0)], false⟩, fun k x => ring_Parts.l10 k x.1.1 x.1.2.1 x.1.2.2.1 x.1.2.2.2.1 x.2.1 x.2.2.1⟩,
  ⟨true, 13, ⟨cat [.one (.val (.int .i64)), .one (.val (.slice .bool))] (cat (ds 7) (cat [.one (.ref 0), .one (.val (.int .i64)), .one (.ptr 1 0)] (cat (ds 27) (cat [.one (.ref 2), .one (.val (.int .i64)), .one (.val (.int .i64))] (cat (ds 5) (cat [.one (.val (.int .i64)), .one (.val (.int .i64))] (ds 22))))))), [.arr (.st 0), .var [.val (.int .u64), .val (.int .u64)], .arr (.st 0)], false⟩, fun k x => ring_Parts.l13 k x.1.1 x.1.2.1 x.1.2.2.1 x.1.2.2.2.1 x.1.2.2.2.2.1 x.1.2.2.2.2.2.1 x.1.2.2.2.2.2.2.1 x.2.1 x.2.2.1.1 x.2.2.1.2.1 x.2.2.2.1⟩]
theorem ring_Parts.ok (k : Nat) : Okf (XR E) Try.prog 17 (ring_Parts.sig k) := ⟨fn_ok (C := fun k => tab.ctx fun f => lk f (ring_Parts.calls k)) (fun k => tie _) k (fun j hj => calls_ok (kc (ring_ask.ok j) (kc (cube_Log.ok j) (kc (ring_of.ok j) (kc (cube_Weights.ok j) (kc (tower_Add.ok j) (kn))))))) 400 Try.func17 (body := ring_Parts.body) (res := [.tmp 6, .tmp 7]) rfl (by kernel_rfl) ring_Parts.cuts (kc ⟨by kernel_rfl, rfl, fun _ => rfl, fun _ _ => by kernel_rfl⟩ (kc ⟨by kernel_rfl, rfl, fun _ => rfl, fun _ _ => by kernel_rfl⟩ (kn))) (fun x => by kernel_rfl), _, Try.func17, by kernel_rfl, by kernel_rfl⟩
/-! ### steeple/steepletop.TopSwitch: function 4 -/
mutual
def steepletop_TopSwitch.j2 : Nat → Option Bool
  | 0 => none
  | k + 1 => (steepletop_fine.f k).bind fun r7 => some r7
def steepletop_TopSwitch.l13 : Nat → Int → Int → Int → Int → Int → Int → Int → Int → Int → Int → Int → List S34 → Int → Int → Option Bool
  | 0, _, _, _, _, _, _, _, _, _, _, _, _, _, _ => none
  | k + 1, x0, x1, x2, x3, x4, x5, x6, x7, x8, x9, x10, x11, x12, x13 => if x4 < (x11.length : Int) then ((tower_Bit.f k x4).bind fun r8 => if 0 ≤ x4 then (if x4 < (x11.length : Int) then ((tower_Mul.f k x0 r8 (rd34 x11 x4)).bind fun r9 => (tower_Add.f k (⟨x12, x13⟩ : S34) r9).bind fun r10 => steepletop_TopSwitch.l13 k x0 x1 x2 x3 (wrap64 (x4 + 1)) x5 x6 x7 x8 x9 x10 x11 r10.f0 r10.f1) else none) else none) else if x1 = 0 then (if x2 = 0 then (if x3 = 0 then (if x5 = x7 ∧ x6 = x8 then some (decide (x9 = x12 ∧ x10 = x13)) else some false) else some false) else some false) else some false
def steepletop_TopSwitch.j7 : Nat → Option Bool
  | 0 => none
  | k + 1 => some true
end
def steepletop_TopSwitch.f (k : Nat) (a0 : Int) (a1 : S25) (a2 : S44) : Option Bool := if (a1.f0.length : Int) > 130 then steepletop_TopSwitch.j2 k else if (a1.f2.length : Int) > 6 then steepletop_TopSwitch.j2 k else if a0 < 0 then steepletop_TopSwitch.j2 k else if a0 > 5 then steepletop_TopSwitch.j2 k else if (a2.f0.length : Int) > 6 then steepletop_TopSwitch.j2 k else if (a2.f1.length : Int) > 6 then steepletop_TopSwitch.j2 k else (steepletop_fine.f k).bind fun r0 => if (!r0) = true then steepletop_TopSwitch.j2 k else (ring_Pack.f k a0 a1.f0).bind fun r1 => (ring_Mask.f k a0 a1.f2 a2.f0).bind fun r2 => (ring_At.f k a0 a1.f2 a2.f0 a2.f1).bind fun r3 => if r1.2 = 0 then (if r2.2 = 0 then (if r3.2 = 0 then (if (r2.1.length : Int) = (r1.1.length : Int) then ((cube_At.f k a0 r2.1 a2.f1).bind fun r4 => (cube_At.f k a0 r1.1 a2.f1).bind fun r5 => (ring_Parts.f k a0 a1.f0 a2.f1).bind fun r6 => steepletop_TopSwitch.l13 k a0 r4.2 r5.2 r6.2 0 r3.1.f0 r3.1.f1 r4.1.f0 r4.1.f1 r5.1.f0 r5.1.f1 r6.1 0 0) else steepletop_TopSwitch.j7 k) else steepletop_TopSwitch.j7 k) else steepletop_TopSwitch.j7 k) else steepletop_TopSwitch.j7 k
def steepletop_TopSwitch.sig (k : Nat) : Sig E.toTys := ⟨[.int .i64, .st 1, .st 5], [(false, .bool)], none, fun x => f k x.1 x.2.1 x.2.2.1⟩
noncomputable def steepletop_TopSwitch.body : Code := Try.f4.body.getD .skip
def steepletop_TopSwitch.calls (k : Nat) : List (Nat × Sig E.toTys) := [(5, steepletop_fine.sig k), (6, ring_Pack.sig k), (14, ring_Mask.sig k), (15, ring_At.sig k), (16, cube_At.sig k), (17, ring_Parts.sig k), (19, tower_Bit.sig k), (10, tower_Mul.sig k), (18, tower_Add.sig k)]
def steepletop_TopSwitch.cuts : List (Cut E (RT E.toTys [(false, .bool)])) := [⟨false, 2, ⟨ds 161, [], false⟩, fun k x => steepletop_TopSwitch.j2 k⟩,
  ⟨true, 13, ⟨cat [.one (.val (.int .i64))] (cat (ds 10) (cat [.one (.ptr 0 0)] (cat (ds 1) (cat [.one (.ptr 1 0), .one (.val (.int .i64)), .one (.ptr 2 0), .one (.val (.int .i64)), .one (.ref 3), .one (.val (.int .i64)), .one (.ptr 4 0), .one (.val (.int .i64))] (ds 140))))), [.var [.val (.int .u64), .val (.int .u64)], .var [.val (.int .u64), .val (.int .u64)], .var [.val (.int .u64), .val (.int .u64)], .arr (.st 0), .var [.val (.int .u64), .val (.int .u64)]], false⟩, fun k x => steepletop_TopSwitch.l13 k x.1.1 x.1.2.1 x.1.2.2.1 x.1.2.2.2.1 x.1.2.2.2.2.1 x.2.1.1 x.2.1.2.1 x.2.2.1.1 x.2.2.1.2.1 x.2.2.2.1.1 x.2.2.2.1.2.1 x.2.2.2.2.1 x.2.2.2.2.2.1.1 x.2.2.2.2.2.1.2.1⟩,
  ⟨false, 7, ⟨ds 161, [], false⟩, fun k x => steepletop_TopSwitch.j7 k⟩]
theorem steepletop_TopSwitch.ok (k : Nat) : Okf (XR E) Try.prog 4 (steepletop_TopSwitch.sig k) := ⟨fn_ok (C := fun k => tab.ctx fun f => lk f (steepletop_TopSwitch.calls k)) (fun k => tie _) k (fun j hj => calls_ok (kc (steepletop_fine.ok j) (kc (ring_Pack.ok j) (kc (ring_Mask.ok j) (kc (ring_At.ok j) (kc (cube_At.ok j) (kc (ring_Parts.ok j) (kc (tower_Bit.ok j) (kc (tower_Mul.ok j) (kc (tower_Add.ok j) (kn))))))))))) 400 Try.func4 (body := steepletop_TopSwitch.body) (res := [.tmp 6]) rfl (by kernel_rfl) steepletop_TopSwitch.cuts (kc ⟨by kernel_rfl, rfl, fun _ => rfl, fun _ _ => by kernel_rfl⟩ (kc ⟨by kernel_rfl, rfl, fun _ => rfl, fun _ _ => by kernel_rfl⟩ (kc ⟨by kernel_rfl, rfl, fun _ => rfl, fun _ _ => by kernel_rfl⟩ (kn)))) (fun x => by kernel_rfl), _, Try.func4, by kernel_rfl, by kernel_rfl⟩
end Go.Proofs.Ytfmjodlcjaflfaa.B

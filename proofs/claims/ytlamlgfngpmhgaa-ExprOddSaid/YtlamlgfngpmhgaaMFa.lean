/- Own text: merged by pack2.py. -/
import Derived.Test.YtlamlgfngpmhgaaProg
import Derived.Test.YtlamlgfngpmhgaaMBa
import Derived.Test.YtlamlgfngpmhgaaMBb
import Derived.Test.YtlamlgfngpmhgaaMBc
set_option linter.unusedSimpArgs false
set_option linter.unusedVariables false
namespace Go.Proofs.Ytlamlgfngpmhgaa.B
open Go.Proofs.Ytlamlgfngpmhgaa.V.B Go.RowKit
set_option linter.unusedVariables false
structure S23 where
  f0 : Int
structure S26 where
  f0 : Option (Nat × Value)
  f1 : Option (Nat × Value)
structure S34 where
  f0 : Int
  f1 : Int
structure S36 where
  f0 : Int
  f1 : Int
  f2 : Int
  f3 : S34
structure S55 where
  f0 : List S36
  f1 : List Int
  f2 : Int
  f3 : Bool
structure S65 where
  f0 : S34
structure S31 where
  f0 : Option (Nat × Value)
  f1 : Option (Nat × Value)
structure S59 where
  f0 : Int
  f1 : Int
structure S61 where
  f0 : Int
  f1 : Int
  f2 : Int
  f3 : S59
def Es : Nat → Type
  | 0 => S23
  | 1 => S26
  | 2 => S34
  | 3 => S36
  | 4 => S55
  | 5 => S65
  | 6 => S31
  | 7 => S59
  | 8 => S61
  | _ + 9 => Unit
def Efs : Nat → List Ty
  | 0 => [.int .i64]
  | 1 => [.any, .any]
  | 2 => [.int .u64, .int .u64]
  | 3 => [.int .i64, .int .i64, .int .i64, .int .u64, .int .u64]
  | 4 => [.slice (.st 3), .slice (.int .i64), .int .i64, .bool]
  | 5 => [.int .u64, .int .u64]
  | 6 => [.any, .any]
  | 7 => [.int .u64, .int .u64]
  | 8 => [.int .i64, .int .i64, .int .i64, .int .u64, .int .u64]
  | _ + 9 => []
def z23 : S23 := ⟨0⟩
def z26 : S26 := ⟨none, none⟩
def z34 : S34 := ⟨0, 0⟩
def z36 : S36 := ⟨0, 0, 0, z34⟩
def z55 : S55 := ⟨[], [], 0, false⟩
def z65 : S65 := ⟨z34⟩
def z31 : S31 := ⟨none, none⟩
def z59 : S59 := ⟨0, 0⟩
def z61 : S61 := ⟨0, 0, 0, z59⟩
def E : Env where
  S := Es
  fs := Efs
  z := fun n => match n with | 0 => z23 | 1 => z26 | 2 => z34 | 3 => z36 | 4 => z55 | 5 => z65 | 6 => z31 | 7 => z59 | 8 => z61 | _ + 9 => ()
  to := fun n => match n with | 0 => fun (x : S23) => (x.f0, ()) | 1 => fun (x : S26) => (x.f0, x.f1, ()) | 2 => fun (x : S34) => (x.f0, x.f1, ()) | 3 => fun (x : S36) => (x.f0, x.f1, x.f2, x.f3.f0, x.f3.f1, ()) | 4 => fun (x : S55) => (x.f0, x.f1, x.f2, x.f3, ()) | 5 => fun (x : S65) => (x.f0.f0, x.f0.f1, ()) | 6 => fun (x : S31) => (x.f0, x.f1, ()) | 7 => fun (x : S59) => (x.f0, x.f1, ()) | 8 => fun (x : S61) => (x.f0, x.f1, x.f2, x.f3.f0, x.f3.f1, ()) | _ + 9 => fun _ => ()
  of := fun n => match n with | 0 => fun x => (⟨x.1⟩ : S23) | 1 => fun x => (⟨x.1, x.2.1⟩ : S26) | 2 => fun x => (⟨x.1, x.2.1⟩ : S34) | 3 => fun x => (⟨x.1, x.2.1, x.2.2.1, (⟨x.2.2.2.1, x.2.2.2.2.1⟩ : S34)⟩ : S36) | 4 => fun x => (⟨x.1, x.2.1, x.2.2.1, x.2.2.2.1⟩ : S55) | 5 => fun x => (⟨(⟨x.1, x.2.1⟩ : S34)⟩ : S65) | 6 => fun x => (⟨x.1, x.2.1⟩ : S31) | 7 => fun x => (⟨x.1, x.2.1⟩ : S59) | 8 => fun x => (⟨x.1, x.2.1, x.2.2.1, (⟨x.2.2.2.1, x.2.2.2.2.1⟩ : S59)⟩ : S61) | _ + 9 => fun _ => ()
  of_to := fun n => match n with | 0 => fun _ => rfl | 1 => fun _ => rfl | 2 => fun _ => rfl | 3 => fun _ => rfl | 4 => fun _ => rfl | 5 => fun _ => rfl | 6 => fun _ => rfl | 7 => fun _ => rfl | 8 => fun _ => rfl | _ + 9 => fun _ => rfl
  to_of := fun n => match n with | 0 => fun _ => rfl | 1 => fun _ => rfl | 2 => fun _ => rfl | 3 => fun _ => rfl | 4 => fun _ => rfl | 5 => fun _ => rfl | 6 => fun _ => rfl | 7 => fun _ => rfl | 8 => fun _ => rfl | _ + 9 => fun _ => rfl
theorem zl_ok : ∀ n, E.to n (E.z n) = zl E (E.fs n) := fun n => match n with | 0 => rfl | 1 => rfl | 2 => rfl | 3 => rfl | 4 => rfl | 5 => rfl | 6 => rfl | 7 => rfl | 8 => rfl | _ + 9 => rfl
def rd23 (xs : List S23) (i : Int) : S23 := xs.getD i.toNat z23
def rd26 (xs : List S26) (i : Int) : S26 := xs.getD i.toNat z26
def rd34 (xs : List S34) (i : Int) : S34 := xs.getD i.toNat z34
def rd36 (xs : List S36) (i : Int) : S36 := xs.getD i.toNat z36
def rd55 (xs : List S55) (i : Int) : S55 := xs.getD i.toNat z55
def rd65 (xs : List S65) (i : Int) : S65 := xs.getD i.toNat z65
def rd31 (xs : List S31) (i : Int) : S31 := xs.getD i.toNat z31
def rd59 (xs : List S59) (i : Int) : S59 := xs.getD i.toNat z59
def rd61 (xs : List S61) (i : Int) : S61 := xs.getD i.toNat z61
def rdI (xs : List Int) (i : Int) : Int := xs.getD i.toNat 0
def rdB (xs : List Bool) (i : Int) : Bool := xs.getD i.toNat false
def rdL {α : Type} (xs : List (List α)) (i : Int) : List α := xs.getD i.toNat []
def tab : Tab := ⟨[(3, .int .i64), (4, .bool), (23, .st 0), (24, .any), (26, .st 1), (27, .slice (.st 3)), (28, .int .i64), (31, .st 6), (32, .int .u64), (34, .st 2), (36, .st 3), (41, .slice (.st 2)), (42, .slice (.st 8)), (53, .slice (.int .i64)), (55, .st 4), (59, .st 7), (61, .st 8), (63, .slice .any), (65, .st 5), (70, .ptr (.st 4)), (80, .int .u64)], [(23, 0, 0, 3), (26, 0, 0, 24), (26, 1, 1, 24), (31, 0, 0, 24), (31, 1, 1, 24), (34, 0, 0, 32), (34, 1, 1, 32), (36, 0, 0, 3), (36, 1, 1, 3), (36, 2, 2, 3), (36, 3, 3, 34), (55, 0, 0, 27), (55, 1, 1, 53), (55, 2, 2, 28), (55, 3, 3, 4), (59, 0, 0, 32), (59, 1, 1, 32), (61, 0, 0, 3), (61, 1, 1, 3), (61, 2, 2, 3), (61, 3, 3, 59), (65, 0, 0, 34)], [(27, 40), (41, 16), (42, 40), (53, 8), (63, 16)], [(34, 2), (59, 2), (61, 5)], []⟩
theorem tab_ok : tab.chk E Try.prog = true := by kernel_rfl
theorem tie (calls : Nat → Option (Sig E.toTys)) : Tie (XR E) Try.prog (tab.ctx calls) := tie_of zl_ok tab_ok calls
end Go.Proofs.Ytlamlgfngpmhgaa.B
namespace Go.Proofs.Ytlamlgfngpmhgaa.B
open Go.Proofs.Ytlamlgfngpmhgaa.V.B Go.RowKit
set_option linter.unusedVariables false
/-! ### (*steeple/expr.walk).note: function 25 -/
def expr_walk_note.f (k : Nat) (a0 : S55) (a1 : Int) : Option (S55 × Unit) := if a0.f2 = 0 then some ((⟨a0.f0, a0.f1, a1, a0.f3⟩ : S55), ()) else some (a0, ())
def expr_walk_note.sig (k : Nat) : BoxSig E := ⟨4, [.int .i64], [], fun y x => f k y x.1⟩
noncomputable def expr_walk_note.body : Code := Try.f25.body.getD .skip
def expr_walk_note.calls (k : Nat) : List (Nat × Sig E.toTys) := []
theorem expr_walk_note.ok (k : Nat) : Okx (XR E) Try.prog 25 (expr_walk_note.sig k) := ⟨fn_okBox (C := fun k => tab.ctx fun f => lk f (expr_walk_note.calls k)) (fun k => tie _) k (fun j hj => calls_ok (kn)) 400 Try.func25 (body := expr_walk_note.body) (res := []) rfl (by kernel_rfl) (by kernel_rfl) (fun y x => by kernel_rfl), _, Try.func25, by kernel_rfl, by kernel_rfl⟩
/-! ### (*steeple/expr.walk).put: function 26 -/
def expr_walk_put.f (k : Nat) (a0 : S55) (a1 : S36) (a2 : Int) : Option (S55 × Int) := if (a0.f0.length : Int) ≥ 200 then some ((⟨a0.f0, a0.f1, a0.f2, true⟩ : S55), 0) else if a2 > 8 then ((expr_walk_note.f k a0 7).bind fun r0 => if r0.1.f0.length + [a1].length ≤ 140737488355328 / 40 then (if r0.1.f1.length + [a2].length ≤ 140737488355328 / 8 then some ((⟨r0.1.f0 ++ [a1], r0.1.f1 ++ [a2], r0.1.f2, r0.1.f3⟩ : S55), wrap64 (((r0.1.f0 ++ [a1]).length : Int) - 1)) else none) else none) else if a0.f0.length + [a1].length ≤ 140737488355328 / 40 then (if a0.f1.length + [a2].length ≤ 140737488355328 / 8 then some ((⟨a0.f0 ++ [a1], a0.f1 ++ [a2], a0.f2, a0.f3⟩ : S55), wrap64 (((a0.f0 ++ [a1]).length : Int) - 1)) else none) else none
def expr_walk_put.sig (k : Nat) : BoxSig E := ⟨4, [.st 3, .int .i64], [(false, .int .i64)], fun y x => f k y x.1 x.2.1⟩
noncomputable def expr_walk_put.body : Code := Try.f26.body.getD .skip
def expr_walk_put.boxs (k : Nat) : List (Nat × BoxSig E) := [(25, expr_walk_note.sig k)]
def expr_walk_put.calls (k : Nat) : List (Nat × Sig E.toTys) := []
theorem expr_walk_put.ok (k : Nat) : Okx (XR E) Try.prog 26 (expr_walk_put.sig k) := ⟨fn_okBox (C := fun k => (tab.ctx fun f => lk f (expr_walk_put.calls k)).bx (expr_walk_put.boxs k)) (fun k => (tie _).bx _) k (fun j hj => (calls_ok (kn)).bx (kc (expr_walk_note.ok j) (kn))) 400 Try.func26 (body := expr_walk_put.body) (res := [.tmp 6]) rfl (by kernel_rfl) (by kernel_rfl) (fun y x => by kernel_rfl), _, Try.func26, by kernel_rfl, by kernel_rfl⟩
/-! ### (*steeple/expr.walk).pair: function 27 -/
/-! ### (*steeple/expr.walk).node: function 16 -/
mutual
def expr_walk_pair.f : Nat → S55 → Int → Option (Nat × Value) → Option (Nat × Value) → Option (S55 × Int)
  | 0, _, _, _, _ => none
  | k + 1, a0, a1, a2, a3 => (expr_walk_node.f k a0 a2).bind fun r0 => (expr_walk_node.f k r0.1 a3).bind fun r1 => if r1.1.f3 = true then some (r1.1, 0) else if 0 ≤ r0.2 then (if r0.2 < (r1.1.f1.length : Int) then (if 0 ≤ r1.2 then (if r1.2 < (r1.1.f1.length : Int) then (if a1 = 4 then (if 0 ≤ r0.2 then (if r0.2 < (r1.1.f1.length : Int) then (if 0 ≤ r1.2 then (if r1.2 < (r1.1.f1.length : Int) then ((expr_walk_put.f k r1.1 (⟨a1, r0.2, r1.2, (⟨0, 0⟩ : S34)⟩ : S36) (wrap64 ((rdI r1.1.f1 r0.2) + (rdI r1.1.f1 r1.2)))).bind fun r2 => some (r2.1, r2.2)) else none) else none) else none) else none) else (expr_walk_put.f k r1.1 (⟨a1, r0.2, r1.2, (⟨0, 0⟩ : S34)⟩ : S36) (if rdI r1.1.f1 r1.2 > rdI r1.1.f1 r0.2 then (rdI r1.1.f1 r1.2) else (rdI r1.1.f1 r0.2))).bind fun r3 => some (r3.1, r3.2)) else none) else none) else none) else none
def expr_walk_node.f : Nat → S55 → Option (Nat × Value) → Option (S55 × Int)
  | 0, _, _ => none
  | k + 1, a0, a1 => if a0.f3 = true then some (a0, 0) else (match isT 23 a1 with | none => (match isT 65 a1 with | none => (match isT 31 a1 with | none => (match isT 26 a1 with | none => (expr_walk_note.f k a0 1).bind fun r8 => (expr_walk_put.f k r8.1 (⟨1, 0, 0, (⟨0, 0⟩ : S34)⟩ : S36) 0).bind fun r9 => some (r9.1, r9.2) | some r6 => (unSt E 1 r6).bind fun r7 => (expr_walk_pair.f k a0 4 r7.f0 r7.f1).bind fun r10 => some (r10.1, r10.2)) | some r4 => (unSt E 6 r4).bind fun r5 => (expr_walk_pair.f k a0 3 r5.f0 r5.f1).bind fun r11 => some (r11.1, r11.2)) | some r2 => (unSt E 5 r2).bind fun r3 => (expr_walk_put.f k a0 (⟨1, 0, 0, r3.f0⟩ : S36) 0).bind fun r12 => some (r12.1, r12.2)) | some r0 => (unSt E 0 r0).bind fun r1 => if r1.f0 < 0 then ((expr_walk_note.f k a0 4).bind fun r13 => (expr_walk_put.f k r13.1 (⟨2, r1.f0, 0, (⟨0, 0⟩ : S34)⟩ : S36) 1).bind fun r14 => some (r14.1, r14.2)) else (expr_walk_put.f k a0 (⟨2, r1.f0, 0, (⟨0, 0⟩ : S34)⟩ : S36) 1).bind fun r15 => some (r15.1, r15.2))
end
def expr_walk_pair.sig (k : Nat) : BoxSig E := ⟨4, [.int .i64, .any, .any], [(false, .int .i64)], fun y x => f k y x.1 x.2.1 x.2.2.1⟩
def expr_walk_node.sig (k : Nat) : BoxSig E := ⟨4, [.any], [(false, .int .i64)], fun y x => f k y x.1⟩
noncomputable def expr_walk_pair.body : Code := Try.f27.body.getD .skip
def expr_walk_pair.boxs (k : Nat) : List (Nat × BoxSig E) := [(16, expr_walk_node.sig k), (26, expr_walk_put.sig k)]
def expr_walk_pair.calls (k : Nat) : List (Nat × Sig E.toTys) := []
noncomputable def expr_walk_node.body : Code := Try.f16.body.getD .skip
def expr_walk_node.boxs (k : Nat) : List (Nat × BoxSig E) := [(25, expr_walk_note.sig k), (26, expr_walk_put.sig k), (27, expr_walk_pair.sig k)]
def expr_walk_node.calls (k : Nat) : List (Nat × Sig E.toTys) := []
theorem expr_walk_pair.oks (k : Nat) : Okx (XR E) Try.prog 27 (expr_walk_pair.sig k) ∧ Okx (XR E) Try.prog 16 (expr_walk_node.sig k) := by
  induction k using Nat.strongRecOn with
  | ind k ih =>
  cases k with
  | zero => exact ⟨⟨ok0x fun _ _ => rfl, _, Try.func27, by kernel_rfl, by kernel_rfl⟩, ⟨ok0x fun _ _ => rfl, _, Try.func16, by kernel_rfl, by kernel_rfl⟩⟩
  | succ k => exact ⟨⟨fn_okBox (C := fun k => (tab.ctx fun f => lk f (expr_walk_pair.calls k)).bx (expr_walk_pair.boxs k)) (fun k => (tie _).bx _) k (fun j hj => (calls_ok (kn)).bx (kc (ih j (Nat.lt_succ_of_le hj)).2 (kc (expr_walk_put.ok j) (kn)))) 400 Try.func27 (body := expr_walk_pair.body) (res := [.tmp 8]) rfl (by kernel_rfl) (by kernel_rfl) (fun y x => by kernel_rfl), _, Try.func27, by kernel_rfl, by kernel_rfl⟩, ⟨fn_okBox (C := fun k => (tab.ctx fun f => lk f (expr_walk_node.calls k)).bx (expr_walk_node.boxs k)) (fun k => (tie _).bx _) k (fun j hj => (calls_ok (kn)).bx (kc (expr_walk_note.ok j) (kc (expr_walk_put.ok j) (kc (ih j (Nat.lt_succ_of_le hj)).1 (kn))))) 400 Try.func16 (body := expr_walk_node.body) (res := [.tmp 4]) rfl (by kernel_rfl) (by kernel_rfl) (fun y x => by kernel_rfl), _, Try.func16, by kernel_rfl, by kernel_rfl⟩⟩
theorem expr_walk_pair.ok (k : Nat) : Okx (XR E) Try.prog 27 (expr_walk_pair.sig k) := (expr_walk_pair.oks k).1
theorem expr_walk_node.ok (k : Nat) : Okx (XR E) Try.prog 16 (expr_walk_node.sig k) := (expr_walk_pair.oks k).2
/-! ### steeple/expr.Flat: function 5 -/
def expr_Flat.f (k : Nat) (a0 : Option (Nat × Value)) : Option ((List S36) × Int) := (expr_walk_node.f k (⟨[], [], 0, false⟩ : S55) a0).bind fun r0 => if r0.1.f3 = true then some ([], 2) else if r0.1.f2 = 0 then some (r0.1.f0, 0) else some ([], r0.1.f2)
def expr_Flat.sig (k : Nat) : Sig E.toTys := ⟨[.any], [(true, .slice (.st 3)), (false, .int .i64)], none, fun x => f k x.1⟩
noncomputable def expr_Flat.body : Code := Try.f5.body.getD .skip
def expr_Flat.boxs (k : Nat) : List (Nat × BoxSig E) := [(16, expr_walk_node.sig k)]
def expr_Flat.calls (k : Nat) : List (Nat × Sig E.toTys) := []
def expr_Flat.cuts : List (Cut E (RT E.toTys [(true, .slice (.st 3)), (false, .int .i64)])) := []
theorem expr_Flat.ok (k : Nat) : Okf (XR E) Try.prog 5 (expr_Flat.sig k) := ⟨fn_ok (C := fun k => (tab.ctx fun f => lk f (expr_Flat.calls k)).bx (expr_Flat.boxs k)) (fun k => (tie _).bx _) k (fun j hj => (calls_ok (kn)).bx (kc (expr_walk_node.ok j) (kn))) 400 Try.func5 (body := expr_Flat.body) (res := [.tmp 2, .tmp 3]) rfl (by kernel_rfl) expr_Flat.cuts (kn) (fun x => by kernel_rfl), _, Try.func5, by kernel_rfl, by kernel_rfl⟩
/-! ### steeple/steeplelaw16.example: function 17 -/
def steeplelaw16_example.f (k : Nat) : Option (List S36) := some [(⟨2, 0, 0, (⟨0, 0⟩ : S34)⟩ : S36), (⟨2, 1, 0, (⟨0, 0⟩ : S34)⟩ : S36), (⟨4, 0, 1, (⟨0, 0⟩ : S34)⟩ : S36), (⟨1, 0, 0, (⟨0, 1⟩ : S34)⟩ : S36), (⟨3, 2, 3, (⟨0, 0⟩ : S34)⟩ : S36)]
def steeplelaw16_example.sig (k : Nat) : Sig E.toTys := ⟨[], [(true, .slice (.st 3))], none, fun x => f k⟩
noncomputable def steeplelaw16_example.body : Code := Try.f17.body.getD .skip
def steeplelaw16_example.calls (k : Nat) : List (Nat × Sig E.toTys) := []
def steeplelaw16_example.cuts : List (Cut E (RT E.toTys [(true, .slice (.st 3))])) := []
theorem steeplelaw16_example.ok (k : Nat) : Okf (XR E) Try.prog 17 (steeplelaw16_example.sig k) := ⟨fn_ok (C := fun k => tab.ctx fun f => lk f (steeplelaw16_example.calls k)) (fun k => tie _) k (fun j hj => calls_ok (kn)) 400 Try.func17 (body := steeplelaw16_example.body) (res := [.tmp 0]) rfl (by kernel_rfl) steeplelaw16_example.cuts (kn) (fun x => by kernel_rfl), _, Try.func17, by kernel_rfl, by kernel_rfl⟩
/-! ### steeple/octet.Wide: function 28 -/
def octet_Wide.f (k : Nat) (a0 : Int) : Option Int := if a0 < 0 then some 0 else if a0 > 7 then some 0 else if a0 ≤ 3 then some 1 else if 0 ≤ wrap64 (a0 - 3) then some (shl .i64 1 (wrap64 (a0 - 3))) else none
def octet_Wide.sig (k : Nat) : Sig E.toTys := ⟨[.int .i64], [(false, .int .i64)], none, fun x => f k x.1⟩
noncomputable def octet_Wide.body : Code := Try.f28.body.getD .skip
def octet_Wide.calls (k : Nat) : List (Nat × Sig E.toTys) := []
def octet_Wide.cuts : List (Cut E (RT E.toTys [(false, .int .i64)])) := []
theorem octet_Wide.ok (k : Nat) : Okf (XR E) Try.prog 28 (octet_Wide.sig k) := ⟨fn_ok (C := fun k => tab.ctx fun f => lk f (octet_Wide.calls k)) (fun k => tie _) k (fun j hj => calls_ok (kn)) 400 Try.func28 (body := octet_Wide.body) (res := [.tmp 2]) rfl (by kernel_rfl) octet_Wide.cuts (kn) (fun x => by kernel_rfl), _, Try.func28, by kernel_rfl, by kernel_rfl⟩
/-! ### steeple/octet.Of: function 22 -/
def octet_Of.f (k : Nat) (a0 : Int) (a1 : S34) : Option Bool := if a0 < 0 then some false else if a0 > 7 then some false else if a0 = 7 then some true else if a0 = 6 then some (decide (a1.f0 = 0)) else if a1.f0 = 0 then (if 0 ≤ a0 then (if 0 ≤ shl .u64 1 a0 then some (decide (shr .u64 a1.f1 (shl .u64 1 a0) = 0)) else none) else none) else some false
def octet_Of.sig (k : Nat) : Sig E.toTys := ⟨[.int .i64, .st 2], [(false, .bool)], none, fun x => f k x.1 x.2.1⟩
noncomputable def octet_Of.body : Code := Try.f22.body.getD .skip
def octet_Of.calls (k : Nat) : List (Nat × Sig E.toTys) := []
def octet_Of.cuts : List (Cut E (RT E.toTys [(false, .bool)])) := []
theorem octet_Of.ok (k : Nat) : Okf (XR E) Try.prog 22 (octet_Of.sig k) := ⟨fn_ok (C := fun k => tab.ctx fun f => lk f (octet_Of.calls k)) (fun k => tie _) k (fun j hj => calls_ok (kn)) 400 Try.func22 (body := octet_Of.body) (res := [.tmp 4]) rfl (by kernel_rfl) octet_Of.cuts (kn) (fun x => by kernel_rfl), _, Try.func22, by kernel_rfl, by kernel_rfl⟩
/-! ### steeple/expr.ahead: function 33 -/
def expr_ahead.f (k : Nat) (a0 : S36) (a1 : Int) : Option Bool := if a0.f1 ≥ 0 then (if a0.f1 < a1 then (if a0.f2 ≥ 0 then some (decide (a0.f2 < a1)) else some false) else some false) else some false
def expr_ahead.sig (k : Nat) : Sig E.toTys := ⟨[.st 3, .int .i64], [(false, .bool)], none, fun x => f k x.1 x.2.1⟩
noncomputable def expr_ahead.body : Code := Try.f33.body.getD .skip
def expr_ahead.calls (k : Nat) : List (Nat × Sig E.toTys) := []
def expr_ahead.cuts : List (Cut E (RT E.toTys [(false, .bool)])) := []
theorem expr_ahead.ok (k : Nat) : Okf (XR E) Try.prog 33 (expr_ahead.sig k) := ⟨fn_ok (C := fun k => tab.ctx fun f => lk f (expr_ahead.calls k)) (fun k => tie _) k (fun j hj => calls_ok (kn)) 400 Try.func33 (body := expr_ahead.body) (res := [.tmp 4]) rfl (by kernel_rfl) expr_ahead.cuts (kn) (fun x => by kernel_rfl), _, Try.func33, by kernel_rfl, by kernel_rfl⟩
/-! ### steeple/expr.step: function 29 -/
mutual
def expr_step.j6 : Nat → Int → List Int → Int → Int → Int → Int → Int → Int → Int → Option (Int × Int)
  | 0, _, _, _, _, _, _, _, _, _ => none
  | k + 1, x0, x1, x2, x3, x4, x5, x6, x7, x8 => if x2 = 2 then (if x4 = 0 then (if x5 = x7 ∧ x6 = x8 then (if x3 < 0 then expr_step.j8 k else if x3 ≥ x0 then expr_step.j8 k else some (1, 0)) else expr_step.j10 k x1 x2 x3 x4 x5 x6 x7 x8) else expr_step.j10 k x1 x2 x3 x4 x5 x6 x7 x8) else expr_step.j10 k x1 x2 x3 x4 x5 x6 x7 x8
def expr_step.j8 : Nat → Option (Int × Int)
  | 0 => none
  | k + 1 => some (0, 4)
def expr_step.j10 : Nat → List Int → Int → Int → Int → Int → Int → Int → Int → Option (Int × Int)
  | 0, _, _, _, _, _, _, _, _ => none
  | k + 1, x0, x1, x2, x3, x4, x5, x6, x7 => if x1 = 3 then (if x4 = x6 ∧ x5 = x7 then ((expr_ahead.f k (⟨x1, x2, x3, (⟨x4, x5⟩ : S34)⟩ : S36) (x0.length : Int)).bind fun r1 => if r1 = true then (if 0 ≤ x2 then (if x2 < (x0.length : Int) then (if 0 ≤ x3 then (if x3 < (x0.length : Int) then some (if rdI x0 x3 > rdI x0 x2 then (rdI x0 x3) else (rdI x0 x2), 0) else none) else none) else none) else none) else expr_step.j12 k x0 x1 x2 x3 x4 x5 x6 x7) else expr_step.j12 k x0 x1 x2 x3 x4 x5 x6 x7) else expr_step.j12 k x0 x1 x2 x3 x4 x5 x6 x7
def expr_step.j12 : Nat → List Int → Int → Int → Int → Int → Int → Int → Int → Option (Int × Int)
  | 0, _, _, _, _, _, _, _, _ => none
  | k + 1, x0, x1, x2, x3, x4, x5, x6, x7 => if x1 = 4 then (if x4 = x6 ∧ x5 = x7 then ((expr_ahead.f k (⟨x1, x2, x3, (⟨x4, x5⟩ : S34)⟩ : S36) (x0.length : Int)).bind fun r2 => if r2 = true then (if 0 ≤ x2 then (if x2 < (x0.length : Int) then (if 0 ≤ x3 then (if x3 < (x0.length : Int) then some (wrap64 ((rdI x0 x2) + (rdI x0 x3)), 0) else none) else none) else none) else none) else expr_step.j14 k) else expr_step.j14 k) else expr_step.j14 k
def expr_step.j14 : Nat → Option (Int × Int)
  | 0 => none
  | k + 1 => some (0, 3)
end
def expr_step.f (k : Nat) (a0 : Int) (a1 : Int) (a2 : S36) (a3 : List Int) : Option (Int × Int) := if a2.f0 = 1 then (if a2.f1 = 0 then (if a2.f2 = 0 then ((octet_Of.f k a0 a2.f3).bind fun r0 => if (!r0) = true then some (0, 5) else some (0, 0)) else expr_step.j6 k a1 a3 a2.f0 a2.f1 a2.f2 a2.f3.f0 a2.f3.f1 0 0) else expr_step.j6 k a1 a3 a2.f0 a2.f1 a2.f2 a2.f3.f0 a2.f3.f1 0 0) else expr_step.j6 k a1 a3 a2.f0 a2.f1 a2.f2 a2.f3.f0 a2.f3.f1 0 0
def expr_step.sig (k : Nat) : Sig E.toTys := ⟨[.int .i64, .int .i64, .st 3, .slice (.int .i64)], [(false, .int .i64), (false, .int .i64)], none, fun x => f k x.1 x.2.1 x.2.2.1 x.2.2.2.1⟩
noncomputable def expr_step.body : Code := Try.f29.body.getD .skip
def expr_step.calls (k : Nat) : List (Nat × Sig E.toTys) := [(22, octet_Of.sig k), (33, expr_ahead.sig k)]
def expr_step.cuts : List (Cut E (RT E.toTys [(false, .int .i64), (false, .int .i64)])) := [⟨false, 6, ⟨cat (ds 1) (cat [.one (.val (.int .i64))] (cat (ds 1) (cat [.one (.val (.slice (.int .i64)))] (cat (ds 2) (cat [.one (.ptr 0 0)] (cat (ds 3) (cat [.one (.ptr 1 0)] (ds 98)))))))), [.var [.val (.int .i64), .val (.int .i64), .val (.int .i64), .val (.int .u64), .val (.int .u64)], .var [.val (.int .u64), .val (.int .u64)]], false⟩, fun k x => expr_step.j6 k x.1.1 x.1.2.1 x.2.1.1 x.2.1.2.1 x.2.1.2.2.1 x.2.1.2.2.2.1 x.2.1.2.2.2.2.1 x.2.2.1.1 x.2.2.1.2.1⟩,
  ⟨false, 8, ⟨ds 109, [], false⟩, fun k x => expr_step.j8 k⟩,
  ⟨false, 10, ⟨cat (ds 3) (cat [.one (.val (.slice (.int .i64)))] (cat (ds 2) (cat [.one (.ptr 0 0)] (cat (ds 3) (cat [.one (.ptr 1 0)] (ds 98)))))), [.var [.val (.int .i64), .val (.int .i64), .val (.int .i64), .val (.int .u64), .val (.int .u64)], .var [.val (.int .u64), .val (.int .u64)]], false⟩, fun k x => expr_step.j10 k x.1.1 x.2.1.1 x.2.1.2.1 x.2.1.2.2.1 x.2.1.2.2.2.1 x.2.1.2.2.2.2.1 x.2.2.1.1 x.2.2.1.2.1⟩,
  ⟨false, 12, ⟨cat (ds 3) (cat [.one (.val (.slice (.int .i64)))] (cat (ds 2) (cat [.one (.ptr 0 0)] (cat (ds 3) (cat [.one (.ptr 1 0)] (ds 98)))))), [.var [.val (.int .i64), .val (.int .i64), .val (.int .i64), .val (.int .u64), .val (.int .u64)], .var [.val (.int .u64), .val (.int .u64)]], false⟩, fun k x => expr_step.j12 k x.1.1 x.2.1.1 x.2.1.2.1 x.2.1.2.2.1 x.2.1.2.2.2.1 x.2.1.2.2.2.2.1 x.2.2.1.1 x.2.2.1.2.1⟩,
  ⟨false, 14, ⟨ds 109, [], false⟩, fun k x => expr_step.j14 k⟩]
theorem expr_step.ok (k : Nat) : Okf (XR E) Try.prog 29 (expr_step.sig k) := ⟨fn_ok (C := fun k => tab.ctx fun f => lk f (expr_step.calls k)) (fun k => tie _) k (fun j hj => calls_ok (kc (octet_Of.ok j) (kc (expr_ahead.ok j) (kn)))) 400 Try.func29 (body := expr_step.body) (res := [.tmp 8, .tmp 9]) rfl (by kernel_rfl) expr_step.cuts (kc ⟨by kernel_rfl, rfl, fun _ => rfl, fun _ _ => by kernel_rfl⟩ (kc ⟨by kernel_rfl, rfl, fun _ => rfl, fun _ _ => by kernel_rfl⟩ (kc ⟨by kernel_rfl, rfl, fun _ => rfl, fun _ _ => by kernel_rfl⟩ (kc ⟨by kernel_rfl, rfl, fun _ => rfl, fun _ _ => by kernel_rfl⟩ (kc ⟨by kernel_rfl, rfl, fun _ => rfl, fun _ _ => by kernel_rfl⟩ (kn)))))) (fun x => by kernel_rfl), _, Try.func29, by kernel_rfl, by kernel_rfl⟩
/-! ### steeple/expr.degrees: function 18 -/
mutual
def expr_degrees.l9 : Nat → Int → Int → List S36 → Int → Int → List Int → Option ((List Int) × Int)
  | 0, _, _, _, _, _, _ => none
  | k + 1, x0, x1, x2, x3, x4, x5 => if x4 < x3 then (if 0 ≤ x4 then (if x4 < (x2.length : Int) then ((expr_step.f k x0 x1 (rd36 x2 x4) x5).bind fun r1 => if r1.2 = 0 then (if r1.1 > 8 then expr_degrees.j14 k x0 x1 r1.1 7 x2 x3 x4 x5 else expr_degrees.j14 k x0 x1 r1.1 r1.2 x2 x3 x4 x5) else expr_degrees.j14 k x0 x1 r1.1 r1.2 x2 x3 x4 x5) else none) else none) else some (x5, 0)
def expr_degrees.j14 : Nat → Int → Int → Int → Int → List S36 → Int → Int → List Int → Option ((List Int) × Int)
  | 0, _, _, _, _, _, _, _, _ => none
  | k + 1, x0, x1, x2, x3, x4, x5, x6, x7 => if x3 = 0 then (if x7.length + [x2].length ≤ 140737488355328 / 8 then expr_degrees.l9 k x0 x1 x4 x5 (wrap64 (x6 + 1)) (x7 ++ [x2]) else none) else some ([], x3)
end
def expr_degrees.f (k : Nat) (a0 : Int) (a1 : Int) (a2 : List S36) : Option ((List Int) × Int) := (octet_Wide.f k a0).bind fun r0 => if r0 = 0 then some ([], 1) else if a1 < 0 then some ([], 1) else if (a2.length : Int) = 0 then some ([], 3) else if (a2.length : Int) > 200 then some ([], 2) else expr_degrees.l9 k a0 a1 a2 (a2.length : Int) 0 []
def expr_degrees.sig (k : Nat) : Sig E.toTys := ⟨[.int .i64, .int .i64, .slice (.st 3)], [(true, .slice (.int .i64)), (false, .int .i64)], none, fun x => f k x.1 x.2.1 x.2.2.1⟩
noncomputable def expr_degrees.body : Code := Try.f18.body.getD .skip
def expr_degrees.calls (k : Nat) : List (Nat × Sig E.toTys) := [(28, octet_Wide.sig k), (29, expr_step.sig k)]
def expr_degrees.cuts : List (Cut E (RT E.toTys [(true, .slice (.int .i64)), (false, .int .i64)])) := [⟨true, 9, ⟨cat [.one (.val (.int .i64)), .one (.val (.int .i64))] (cat (ds 6) (cat [.one (.ref 0)] (cat (ds 20) (cat [.one (.val (.slice (.st 3))), .one (.val (.int .i64)), .one (.val (.int .i64))] (ds 26))))), [.arr (.int .i64)], false⟩, fun k x => expr_degrees.l9 k x.1.1 x.1.2.1 x.1.2.2.1 x.1.2.2.2.1 x.1.2.2.2.2.1 x.2.1⟩,
  ⟨false, 14, ⟨cat [.one (.val (.int .i64)), .one (.val (.int .i64))] (cat (ds 6) (cat [.one (.ref 0)] (cat (ds 2) (cat [.one (.val (.int .i64)), .one (.val (.int .i64))] (cat (ds 16) (cat [.one (.val (.slice (.st 3))), .one (.val (.int .i64)), .one (.val (.int .i64))] (ds 26))))))), [.arr (.int .i64)], false⟩, fun k x => expr_degrees.j14 k x.1.1 x.1.2.1 x.1.2.2.1 x.1.2.2.2.1 x.1.2.2.2.2.1 x.1.2.2.2.2.2.1 x.1.2.2.2.2.2.2.1 x.2.1⟩]
theorem expr_degrees.ok (k : Nat) : Okf (XR E) Try.prog 18 (expr_degrees.sig k) := ⟨fn_ok (C := fun k => tab.ctx fun f => lk f (expr_degrees.calls k)) (fun k => tie _) k (fun j hj => calls_ok (kc (octet_Wide.ok j) (kc (expr_step.ok j) (kn)))) 400 Try.func18 (body := expr_degrees.body) (res := [.tmp 6, .tmp 7]) rfl (by kernel_rfl) expr_degrees.cuts (kc ⟨by kernel_rfl, rfl, fun _ => rfl, fun _ _ => by kernel_rfl⟩ (kc ⟨by kernel_rfl, rfl, fun _ => rfl, fun _ _ => by kernel_rfl⟩ (kn))) (fun x => by kernel_rfl), _, Try.func18, by kernel_rfl, by kernel_rfl⟩
/-! ### steeple/expr.Check: function 19 -/
def expr_Check.f (k : Nat) (a0 : Int) (a1 : Int) (a2 : List S36) : Option Int := (expr_degrees.f k a0 a1 a2).bind fun r0 => some r0.2
def expr_Check.sig (k : Nat) : Sig E.toTys := ⟨[.int .i64, .int .i64, .slice (.st 3)], [(false, .int .i64)], none, fun x => f k x.1 x.2.1 x.2.2.1⟩
noncomputable def expr_Check.body : Code := Try.f19.body.getD .skip
def expr_Check.calls (k : Nat) : List (Nat × Sig E.toTys) := [(18, expr_degrees.sig k)]
def expr_Check.cuts : List (Cut E (RT E.toTys [(false, .int .i64)])) := []
theorem expr_Check.ok (k : Nat) : Okf (XR E) Try.prog 19 (expr_Check.sig k) := ⟨fn_ok (C := fun k => tab.ctx fun f => lk f (expr_Check.calls k)) (fun k => tie _) k (fun j hj => calls_ok (kc (expr_degrees.ok j) (kn))) 400 Try.func19 (body := expr_Check.body) (res := [.tmp 6]) rfl (by kernel_rfl) expr_Check.cuts (kn) (fun x => by kernel_rfl), _, Try.func19, by kernel_rfl, by kernel_rfl⟩
/-! ### steeple/tower.Add: function 23 -/
def tower_Add.f (k : Nat) (a0 : S34) (a1 : S34) : Option S34 := some (⟨bits .xor .u64 a0.f0 a1.f0, bits .xor .u64 a0.f1 a1.f1⟩ : S34)
def tower_Add.sig (k : Nat) : Sig E.toTys := ⟨[.st 2, .st 2], [(false, .st 2)], none, fun x => f k x.1 x.2.1⟩
noncomputable def tower_Add.body : Code := Try.f23.body.getD .skip
def tower_Add.calls (k : Nat) : List (Nat × Sig E.toTys) := []
def tower_Add.cuts : List (Cut E (RT E.toTys [(false, .st 2)])) := []
theorem tower_Add.ok (k : Nat) : Okf (XR E) Try.prog 23 (tower_Add.sig k) := ⟨fn_ok (C := fun k => tab.ctx fun f => lk f (tower_Add.calls k)) (fun k => tie _) k (fun j hj => calls_ok (kn)) 400 Try.func23 (body := tower_Add.body) (res := [.cell 4 34]) rfl (by kernel_rfl) tower_Add.cuts (kn) (fun x => by kernel_rfl), _, Try.func23, by kernel_rfl, by kernel_rfl⟩
/-! ### steeple/tower.halves: function 34 -/
def tower_halves.f (k : Nat) (a0 : Int) (a1 : Int) : Option (Int × Int) := if 0 ≤ wrap64 (a0 - 1) then (if 0 ≤ shl .i64 1 (wrap64 (a0 - 1)) then (if 0 ≤ shl .i64 1 (wrap64 (a0 - 1)) then some (shr .u64 a1 (shl .i64 1 (wrap64 (a0 - 1))), bits .and .u64 a1 (IntKind.u64.wrap ((shl .u64 1 (shl .i64 1 (wrap64 (a0 - 1)))) - 1))) else none) else none) else none
def tower_halves.sig (k : Nat) : Sig E.toTys := ⟨[.int .i64, .int .u64], [(false, .int .u64), (false, .int .u64)], none, fun x => f k x.1 x.2.1⟩
noncomputable def tower_halves.body : Code := Try.f34.body.getD .skip
def tower_halves.calls (k : Nat) : List (Nat × Sig E.toTys) := []
def tower_halves.cuts : List (Cut E (RT E.toTys [(false, .int .u64), (false, .int .u64)])) := []
theorem tower_halves.ok (k : Nat) : Okf (XR E) Try.prog 34 (tower_halves.sig k) := ⟨fn_ok (C := fun k => tab.ctx fun f => lk f (tower_halves.calls k)) (fun k => tie _) k (fun j hj => calls_ok (kn)) 400 Try.func34 (body := tower_halves.body) (res := [.tmp 4, .tmp 5]) rfl (by kernel_rfl) tower_halves.cuts (kn) (fun x => by kernel_rfl), _, Try.func34, by kernel_rfl, by kernel_rfl⟩
/-! ### steeple/tower.join: function 35 -/
def tower_join.f (k : Nat) (a0 : Int) (a1 : Int) (a2 : Int) : Option Int := if 0 ≤ wrap64 (a0 - 1) then (if 0 ≤ shl .u64 1 (wrap64 (a0 - 1)) then some (bits .or .u64 (shl .u64 a1 (shl .u64 1 (wrap64 (a0 - 1)))) a2) else none) else none
def tower_join.sig (k : Nat) : Sig E.toTys := ⟨[.int .i64, .int .u64, .int .u64], [(false, .int .u64)], none, fun x => f k x.1 x.2.1 x.2.2.1⟩
noncomputable def tower_join.body : Code := Try.f35.body.getD .skip
def tower_join.calls (k : Nat) : List (Nat × Sig E.toTys) := []
def tower_join.cuts : List (Cut E (RT E.toTys [(false, .int .u64)])) := []
theorem tower_join.ok (k : Nat) : Okf (XR E) Try.prog 35 (tower_join.sig k) := ⟨fn_ok (C := fun k => tab.ctx fun f => lk f (tower_join.calls k)) (fun k => tie _) k (fun j hj => calls_ok (kn)) 400 Try.func35 (body := tower_join.body) (res := [.tmp 6]) rfl (by kernel_rfl) tower_join.cuts (kn) (fun x => by kernel_rfl), _, Try.func35, by kernel_rfl, by kernel_rfl⟩
/-! ### steeple/tower.mulX: function 32 -/
def tower_mulX.f : Nat → Int → Int → Option Int
  | 0, _, _ => none
  | k + 1, a0, a1 => if a0 = 0 then some a1 else (tower_halves.f k a0 a1).bind fun r0 => (tower_mulX.f k (wrap64 (a0 - 1)) r0.1).bind fun r1 => (tower_join.f k a0 (bits .xor .u64 r0.2 r1) r0.1).bind fun r2 => some r2
def tower_mulX.sig (k : Nat) : Sig E.toTys := ⟨[.int .i64, .int .u64], [(false, .int .u64)], none, fun x => f k x.1 x.2.1⟩
noncomputable def tower_mulX.body : Code := Try.f32.body.getD .skip
def tower_mulX.calls (k : Nat) : List (Nat × Sig E.toTys) := [(34, tower_halves.sig k), (32, tower_mulX.sig k), (35, tower_join.sig k)]
def tower_mulX.cuts : List (Cut E (RT E.toTys [(false, .int .u64)])) := []
theorem tower_mulX.oks (k : Nat) : Okf (XR E) Try.prog 32 (tower_mulX.sig k) := by
  induction k using Nat.strongRecOn with
  | ind k ih =>
  cases k with
  | zero => exact ⟨ok0 fun _ => rfl, _, Try.func32, by kernel_rfl, by kernel_rfl⟩
  | succ k => exact ⟨fn_ok (C := fun k => tab.ctx fun f => lk f (tower_mulX.calls k)) (fun k => tie _) k (fun j hj => calls_ok (kc (tower_halves.ok j) (kc (ih j (Nat.lt_succ_of_le hj)) (kc (tower_join.ok j) (kn))))) 400 Try.func32 (body := tower_mulX.body) (res := [.tmp 4]) rfl (by kernel_rfl) tower_mulX.cuts (kn) (fun x => by kernel_rfl), _, Try.func32, by kernel_rfl, by kernel_rfl⟩
theorem tower_mulX.ok (k : Nat) : Okf (XR E) Try.prog 32 (tower_mulX.sig k) := (tower_mulX.oks k)
/-! ### steeple/tower.mul: function 31 -/
mutual
def tower_mul.j2 : Nat → Int → Int → Option Int
  | 0, _, _ => none
  | k + 1, x0, x1 => some (bits .and .u64 (bits .and .u64 x0 x1) 1)
def tower_mul.f : Nat → Int → Int → Int → Option Int
  | 0, _, _, _ => none
  | k + 1, a0, a1, a2 => if a0 = 0 then tower_mul.j2 k a1 a2 else if a1 = 0 then tower_mul.j2 k a1 a2 else if a2 = 0 then tower_mul.j2 k a1 a2 else (tower_halves.f k a0 a1).bind fun r0 => (tower_halves.f k a0 a2).bind fun r1 => (tower_mul.f k (wrap64 (a0 - 1)) r0.1 r1.1).bind fun r2 => (tower_mul.f k (wrap64 (a0 - 1)) r0.2 r1.2).bind fun r3 => (tower_mul.f k (wrap64 (a0 - 1)) (bits .xor .u64 r0.1 r0.2) (bits .xor .u64 r1.1 r1.2)).bind fun r4 => (tower_mulX.f k (wrap64 (a0 - 1)) r2).bind fun r5 => (tower_join.f k a0 (bits .xor .u64 (bits .xor .u64 (bits .xor .u64 r4 r2) r3) r5) (bits .xor .u64 r3 r2)).bind fun r6 => some r6
end
def tower_mul.sig (k : Nat) : Sig E.toTys := ⟨[.int .i64, .int .u64, .int .u64], [(false, .int .u64)], none, fun x => f k x.1 x.2.1 x.2.2.1⟩
noncomputable def tower_mul.body : Code := Try.f31.body.getD .skip
def tower_mul.calls (k : Nat) : List (Nat × Sig E.toTys) := [(34, tower_halves.sig k), (31, tower_mul.sig k), (32, tower_mulX.sig k), (35, tower_join.sig k)]
def tower_mul.cuts : List (Cut E (RT E.toTys [(false, .int .u64)])) := [⟨false, 2, ⟨cat (ds 1) (cat [.one (.val (.int .u64)), .one (.val (.int .u64))] (ds 71)), [], false⟩, fun k x => tower_mul.j2 k x.1.1 x.1.2.1⟩]
theorem tower_mul.oks (k : Nat) : Okf (XR E) Try.prog 31 (tower_mul.sig k) := by
  induction k using Nat.strongRecOn with
  | ind k ih =>
  cases k with
  | zero => exact ⟨ok0 fun _ => rfl, _, Try.func31, by kernel_rfl, by kernel_rfl⟩
  | succ k => exact ⟨fn_ok (C := fun k => tab.ctx fun f => lk f (tower_mul.calls k)) (fun k => tie _) k (fun j hj => calls_ok (kc (tower_halves.ok j) (kc (ih j (Nat.lt_succ_of_le hj)) (kc (tower_mulX.ok j) (kc (tower_join.ok j) (kn)))))) 400 Try.func31 (body := tower_mul.body) (res := [.tmp 6]) rfl (by kernel_rfl) tower_mul.cuts (kc ⟨by kernel_rfl, rfl, fun _ => rfl, fun _ _ => by kernel_rfl⟩ (kn)) (fun x => by kernel_rfl), _, Try.func31, by kernel_rfl, by kernel_rfl⟩
theorem tower_mul.ok (k : Nat) : Okf (XR E) Try.prog 31 (tower_mul.sig k) := (tower_mul.oks k)
/-! ### steeple/tower.Mul: function 24 -/
def tower_Mul.f (k : Nat) (a0 : Int) (a1 : S34) (a2 : S34) : Option S34 := (octet_Of.f k a0 a1).bind fun r0 => if (!r0) = true then some (⟨0, 0⟩ : S34) else (octet_Of.f k a0 a2).bind fun r1 => if (!r1) = true then some (⟨0, 0⟩ : S34) else if a0 ≤ 6 then ((tower_mul.f k a0 a1.f1 a2.f1).bind fun r2 => some (⟨0, r2⟩ : S34)) else (tower_mul.f k 6 a1.f0 a2.f0).bind fun r3 => (tower_mul.f k 6 a1.f1 a2.f1).bind fun r4 => (tower_mul.f k 6 (bits .xor .u64 a1.f0 a1.f1) (bits .xor .u64 a2.f0 a2.f1)).bind fun r5 => (tower_mulX.f k 6 r3).bind fun r6 => some (⟨bits .xor .u64 (bits .xor .u64 (bits .xor .u64 r5 r3) r4) r6, bits .xor .u64 r4 r3⟩ : S34)
def tower_Mul.sig (k : Nat) : Sig E.toTys := ⟨[.int .i64, .st 2, .st 2], [(false, .st 2)], none, fun x => f k x.1 x.2.1 x.2.2.1⟩
noncomputable def tower_Mul.body : Code := Try.f24.body.getD .skip
def tower_Mul.calls (k : Nat) : List (Nat × Sig E.toTys) := [(22, octet_Of.sig k), (31, tower_mul.sig k), (32, tower_mulX.sig k)]
def tower_Mul.cuts : List (Cut E (RT E.toTys [(false, .st 2)])) := []
theorem tower_Mul.ok (k : Nat) : Okf (XR E) Try.prog 24 (tower_Mul.sig k) := ⟨fn_ok (C := fun k => tab.ctx fun f => lk f (tower_Mul.calls k)) (fun k => tie _) k (fun j hj => calls_ok (kc (octet_Of.ok j) (kc (tower_mul.ok j) (kc (tower_mulX.ok j) (kn))))) 400 Try.func24 (body := tower_Mul.body) (res := [.cell 6 34]) rfl (by kernel_rfl) tower_Mul.cuts (kn) (fun x => by kernel_rfl), _, Try.func24, by kernel_rfl, by kernel_rfl⟩
/-! ### steeple/expr.Eval: function 15 -/
mutual
def expr_Eval.l5 : Nat → Int → List S36 → List S34 → List S34 → Int → Int → Int → Int → Option (S34 × Int)
  | 0, _, _, _, _, _, _, _, _ => none
  | k + 1, x0, x1, x2, x3, x4, x5, x6, x7 => if x5 < x4 then (if 0 ≤ x5 then (if x5 < (x3.length : Int) then ((octet_Of.f k x0 (rd34 x3 x5)).bind fun r1 => if (!r1) = true then some ((⟨0, 0⟩ : S34), 5) else expr_Eval.l5 k x0 x1 x2 x3 x4 (wrap64 (x5 + 1)) x6 x7) else none) else none) else expr_Eval.l12 k x0 x2 x1 (x1.length : Int) 0 x6 x7 []
def expr_Eval.l12 : Nat → Int → List S34 → List S36 → Int → Int → Int → Int → List S34 → Option (S34 × Int)
  | 0, _, _, _, _, _, _, _, _ => none
  | k + 1, x0, x1, x2, x3, x4, x5, x6, x7 => if x4 < x3 then (if 0 ≤ x4 then (if x4 < (x2.length : Int) then (if (rd36 x2 x4).f0 = 1 then expr_Eval.j24 k x0 x1 x2 x3 x4 x5 x6 x7 (rd36 x2 x4).f3.f0 (rd36 x2 x4).f3.f1 else if (rd36 x2 x4).f0 = 2 then (if 0 ≤ (rd36 x2 x4).f1 then (if (rd36 x2 x4).f1 < (x1.length : Int) then expr_Eval.j24 k x0 x1 x2 x3 x4 x5 x6 x7 (rd34 x1 (rd36 x2 x4).f1).f0 (rd34 x1 (rd36 x2 x4).f1).f1 else none) else none) else if (rd36 x2 x4).f0 = 3 then (if 0 ≤ (rd36 x2 x4).f1 then (if (rd36 x2 x4).f1 < (x7.length : Int) then (if 0 ≤ (rd36 x2 x4).f2 then (if (rd36 x2 x4).f2 < (x7.length : Int) then ((tower_Add.f k (rd34 x7 (rd36 x2 x4).f1) (rd34 x7 (rd36 x2 x4).f2)).bind fun r2 => expr_Eval.j24 k x0 x1 x2 x3 x4 x5 x6 x7 r2.f0 r2.f1) else none) else none) else none) else none) else if (rd36 x2 x4).f0 = 4 then (if 0 ≤ (rd36 x2 x4).f1 then (if (rd36 x2 x4).f1 < (x7.length : Int) then (if 0 ≤ (rd36 x2 x4).f2 then (if (rd36 x2 x4).f2 < (x7.length : Int) then ((tower_Mul.f k x0 (rd34 x7 (rd36 x2 x4).f1) (rd34 x7 (rd36 x2 x4).f2)).bind fun r3 => expr_Eval.j24 k x0 x1 x2 x3 x4 x5 x6 x7 r3.f0 r3.f1) else none) else none) else none) else none) else expr_Eval.j24 k x0 x1 x2 x3 x4 x5 x6 x7 0 0) else none) else none) else if 0 ≤ wrap64 ((x7.length : Int) - 1) then (if wrap64 ((x7.length : Int) - 1) < (x7.length : Int) then some (rd34 x7 (wrap64 ((x7.length : Int) - 1)), 0) else none) else none
def expr_Eval.j24 : Nat → Int → List S34 → List S36 → Int → Int → Int → Int → List S34 → Int → Int → Option (S34 × Int)
  | 0, _, _, _, _, _, _, _, _, _, _ => none
  | k + 1, x0, x1, x2, x3, x4, x5, x6, x7, x8, x9 => if x7.length + [(⟨x8, x9⟩ : S34)].length ≤ 140737488355328 / 16 then expr_Eval.l12 k x0 x1 x2 x3 (wrap64 (x4 + 1)) x5 x6 (x7 ++ [(⟨x8, x9⟩ : S34)]) else none
end
def expr_Eval.f (k : Nat) (a0 : Int) (a1 : List S36) (a2 : List S34) : Option (S34 × Int) := (expr_Check.f k a0 (a2.length : Int) a1).bind fun r0 => if r0 = 0 then expr_Eval.l5 k a0 a1 a2 a2 (a2.length : Int) 0 0 0 else some ((⟨0, 0⟩ : S34), r0)
def expr_Eval.sig (k : Nat) : Sig E.toTys := ⟨[.int .i64, .slice (.st 3), .slice (.st 2)], [(false, .st 2), (false, .int .i64)], none, fun x => f k x.1 x.2.1 x.2.2.1⟩
noncomputable def expr_Eval.body : Code := Try.f15.body.getD .skip
def expr_Eval.calls (k : Nat) : List (Nat × Sig E.toTys) := [(19, expr_Check.sig k), (22, octet_Of.sig k), (23, tower_Add.sig k), (24, tower_Mul.sig k)]
def expr_Eval.cuts : List (Cut E (RT E.toTys [(false, .st 2), (false, .int .i64)])) := [⟨true, 5, ⟨cat [.one (.val (.int .i64)), .one (.val (.slice (.st 3))), .one (.val (.slice (.st 2)))] (cat (ds 3) (cat [.one (.ptr 0 0)] (cat (ds 17) (cat [.one (.val (.slice (.st 2))), .one (.val (.int .i64)), .one (.val (.int .i64))] (ds 66))))), [.var [.val (.int .u64), .val (.int .u64)]], false⟩, fun k x => expr_Eval.l5 k x.1.1 x.1.2.1 x.1.2.2.1 x.1.2.2.2.1 x.1.2.2.2.2.1 x.1.2.2.2.2.2.1 x.2.1.1 x.2.1.2.1⟩,
  ⟨true, 12, ⟨cat [.one (.val (.int .i64))] (cat (ds 1) (cat [.one (.val (.slice (.st 2)))] (cat (ds 3) (cat [.one (.ptr 0 0)] (cat (ds 4) (cat [.one (.ref 1)] (cat (ds 24) (cat [.one (.val (.slice (.st 3))), .one (.val (.int .i64)), .one (.val (.int .i64))] (ds 54))))))))), [.var [.val (.int .u64), .val (.int .u64)], .arr (.st 2)], false⟩, fun k x => expr_Eval.l12 k x.1.1 x.1.2.1 x.1.2.2.1 x.1.2.2.2.1 x.1.2.2.2.2.1 x.2.1.1 x.2.1.2.1 x.2.2.1⟩,
  ⟨false, 24, ⟨cat [.one (.val (.int .i64))] (cat (ds 1) (cat [.one (.val (.slice (.st 2)))] (cat (ds 3) (cat [.one (.ptr 0 0)] (cat (ds 4) (cat [.one (.ref 1)] (cat (ds 2) (cat [.one (.ptr 2 0)] (cat (ds 21) (cat [.one (.val (.slice (.st 3))), .one (.val (.int .i64)), .one (.val (.int .i64))] (ds 54))))))))))), [.var [.val (.int .u64), .val (.int .u64)], .arr (.st 2), .var [.val (.int .u64), .val (.int .u64)]], false⟩, fun k x => expr_Eval.j24 k x.1.1 x.1.2.1 x.1.2.2.1 x.1.2.2.2.1 x.1.2.2.2.2.1 x.2.1.1 x.2.1.2.1 x.2.2.1 x.2.2.2.1.1 x.2.2.2.1.2.1⟩]
theorem expr_Eval.ok (k : Nat) : Okf (XR E) Try.prog 15 (expr_Eval.sig k) := ⟨fn_ok (C := fun k => tab.ctx fun f => lk f (expr_Eval.calls k)) (fun k => tie _) k (fun j hj => calls_ok (kc (expr_Check.ok j) (kc (octet_Of.ok j) (kc (tower_Add.ok j) (kc (tower_Mul.ok j) (kn)))))) 400 Try.func15 (body := expr_Eval.body) (res := [.cell 6 34, .tmp 7]) rfl (by kernel_rfl) expr_Eval.cuts (kc ⟨by kernel_rfl, rfl, fun _ => rfl, fun _ _ => by kernel_rfl⟩ (kc ⟨by kernel_rfl, rfl, fun _ => rfl, fun _ _ => by kernel_rfl⟩ (kc ⟨by kernel_rfl, rfl, fun _ => rfl, fun _ _ => by kernel_rfl⟩ (kn)))) (fun x => by kernel_rfl), _, Try.func15, by kernel_rfl, by kernel_rfl⟩
/-! ### steeple/expr.Degree: function 7 -/
def expr_Degree.f (k : Nat) (a0 : List S36) : Option Int := (expr_degrees.f k 7 9223372036854775807 a0).bind fun r0 => if r0.2 = 0 then (if 0 ≤ wrap64 ((r0.1.length : Int) - 1) then (if wrap64 ((r0.1.length : Int) - 1) < (r0.1.length : Int) then some (rdI r0.1 (wrap64 ((r0.1.length : Int) - 1))) else none) else none) else some (-1)
def expr_Degree.sig (k : Nat) : Sig E.toTys := ⟨[.slice (.st 3)], [(false, .int .i64)], none, fun x => f k x.1⟩
noncomputable def expr_Degree.body : Code := Try.f7.body.getD .skip
def expr_Degree.calls (k : Nat) : List (Nat × Sig E.toTys) := [(18, expr_degrees.sig k)]
def expr_Degree.cuts : List (Cut E (RT E.toTys [(false, .int .i64)])) := []
theorem expr_Degree.ok (k : Nat) : Okf (XR E) Try.prog 7 (expr_Degree.sig k) := ⟨fn_ok (C := fun k => tab.ctx fun f => lk f (expr_Degree.calls k)) (fun k => tie _) k (fun j hj => calls_ok (kc (expr_degrees.ok j) (kn))) 400 Try.func7 (body := expr_Degree.body) (res := [.tmp 2]) rfl (by kernel_rfl) expr_Degree.cuts (kn) (fun x => by kernel_rfl), _, Try.func7, by kernel_rfl, by kernel_rfl⟩
/-! ### steeple/steeplelaw16.awake: function 6 -/
def steeplelaw16_awake.f (k : Nat) : Option Bool := (steeplelaw16_example.f k).bind fun r0 => (expr_Eval.f k 1 r0 [(⟨0, 2⟩ : S34), (⟨0, 2⟩ : S34)]).bind fun r1 => (steeplelaw16_example.f k).bind fun r2 => (expr_Degree.f k r2).bind fun r3 => if r3 = 2 then (if r1.2 = 0 then some (decide (r1.1.f0 = 0 ∧ r1.1.f1 = 2)) else some false) else some false
def steeplelaw16_awake.sig (k : Nat) : Sig E.toTys := ⟨[], [(false, .bool)], none, fun x => f k⟩
noncomputable def steeplelaw16_awake.body : Code := Try.f6.body.getD .skip
def steeplelaw16_awake.calls (k : Nat) : List (Nat × Sig E.toTys) := [(17, steeplelaw16_example.sig k), (15, expr_Eval.sig k), (7, expr_Degree.sig k)]
def steeplelaw16_awake.cuts : List (Cut E (RT E.toTys [(false, .bool)])) := []
theorem steeplelaw16_awake.ok (k : Nat) : Okf (XR E) Try.prog 6 (steeplelaw16_awake.sig k) := ⟨fn_ok (C := fun k => tab.ctx fun f => lk f (steeplelaw16_awake.calls k)) (fun k => tie _) k (fun j hj => calls_ok (kc (steeplelaw16_example.ok j) (kc (expr_Eval.ok j) (kc (expr_Degree.ok j) (kn))))) 400 Try.func6 (body := steeplelaw16_awake.body) (res := [.tmp 0]) rfl (by kernel_rfl) steeplelaw16_awake.cuts (kn) (fun x => by kernel_rfl), _, Try.func6, by kernel_rfl, by kernel_rfl⟩
/-! ### steeple/expr.MustVar: function 8 -/
def expr_MustVar.f (k : Nat) (a0 : Option (Nat × Value)) : Option Int := (match isT 23 a0 with | none => none | some r0 => (unSt E 0 r0).bind fun r1 => some r1.f0)
def expr_MustVar.sig (k : Nat) : Sig E.toTys := ⟨[.any], [(false, .int .i64)], none, fun x => f k x.1⟩
noncomputable def expr_MustVar.body : Code := Try.f8.body.getD .skip
def expr_MustVar.calls (k : Nat) : List (Nat × Sig E.toTys) := []
def expr_MustVar.cuts : List (Cut E (RT E.toTys [(false, .int .i64)])) := []
theorem expr_MustVar.ok (k : Nat) : Okf (XR E) Try.prog 8 (expr_MustVar.sig k) := ⟨fn_ok (C := fun k => tab.ctx fun f => lk f (expr_MustVar.calls k)) (fun k => tie _) k (fun j hj => calls_ok (kn)) 400 Try.func8 (body := expr_MustVar.body) (res := [.tmp 2]) rfl (by kernel_rfl) expr_MustVar.cuts (kn) (fun x => by kernel_rfl), _, Try.func8, by kernel_rfl, by kernel_rfl⟩
/-! ### steeple/steeplelaw16.ExprOdd: function 3 -/
mutual
def steeplelaw16_ExprOdd.j7 : Nat → Int → Int → Option Bool
  | 0, _, _ => none
  | k + 1, x0, x1 => steeplelaw16_ExprOdd.l11 k x0 (wrap64 (1 + (Int.tmod (wrap64 ((Int.tmod x1 20) + 20)) 20))) (some ((23 : Nat), Value.agg #[Value.int .i64 2])) 1
def steeplelaw16_ExprOdd.j6 : Nat → Option Bool
  | 0 => none
  | k + 1 => some false
def steeplelaw16_ExprOdd.l11 : Nat → Int → Int → Option (Nat × Value) → Int → Option Bool
  | 0, _, _, _, _ => none
  | k + 1, x0, x1, x2, x3 => if x3 < x1 then steeplelaw16_ExprOdd.l11 k x0 x1 (some ((26 : Nat), Value.agg #[anyV x2, anyV (some ((23 : Nat), Value.agg #[Value.int .i64 x3]))])) (wrap64 (x3 + 1)) else (expr_Flat.f k x2).bind fun r3 => if x1 > 8 then ((steeplelaw16_awake.f k).bind fun r4 => if r4 = true then (if r3.2 = 7 then some (decide ((r3.1.length : Int) = 0)) else some false) else some false) else (steeplelaw16_awake.f k).bind fun r5 => if r5 = true then (if r3.2 = 0 then ((expr_Degree.f k r3.1).bind fun r6 => if r6 = x1 then ((expr_MustVar.f k (some ((23 : Nat), Value.agg #[Value.int .i64 x0]))).bind fun r7 => some (decide (r7 = x0))) else some false) else some false) else some false
end
def steeplelaw16_ExprOdd.f (k : Nat) (a0 : Int) (a1 : Int) : Option Bool := (expr_Flat.f k (some ((26 : Nat), Value.agg #[anyV (some ((23 : Nat), Value.agg #[Value.int .i64 a0])), anyV (some ((23 : Nat), Value.agg #[Value.int .i64 1]))]))).bind fun r0 => (expr_Flat.f k none).bind fun r1 => (expr_Flat.f k (some ((31 : Nat), Value.agg #[anyV (some ((23 : Nat), Value.agg #[Value.int .i64 0])), anyV (some ((3 : Nat), Value.int .i64 7))]))).bind fun r2 => if r1.2 = 1 then (if r2.2 = 1 then (if (decide (r0.2 = 4)) = (decide (a0 < 0)) then (if (decide (r0.2 = 0)) = (decide (a0 ≥ 0)) then (if r0.2 = 0 then (if (r0.1.length : Int) = 3 then (if 0 < (r0.1.length : Int) then (if (rd36 r0.1 (0 : Int)).f1 = a0 then steeplelaw16_ExprOdd.j7 k a0 a1 else steeplelaw16_ExprOdd.j6 k) else none) else steeplelaw16_ExprOdd.j6 k) else steeplelaw16_ExprOdd.j7 k a0 a1) else steeplelaw16_ExprOdd.j6 k) else steeplelaw16_ExprOdd.j6 k) else steeplelaw16_ExprOdd.j6 k) else steeplelaw16_ExprOdd.j6 k
def steeplelaw16_ExprOdd.sig (k : Nat) : Sig E.toTys := ⟨[.int .i64, .int .i64], [(false, .bool)], none, fun x => f k x.1 x.2.1⟩
noncomputable def steeplelaw16_ExprOdd.body : Code := Try.f3.body.getD .skip
def steeplelaw16_ExprOdd.calls (k : Nat) : List (Nat × Sig E.toTys) := [(5, expr_Flat.sig k), (6, steeplelaw16_awake.sig k), (7, expr_Degree.sig k), (8, expr_MustVar.sig k)]
def steeplelaw16_ExprOdd.cuts : List (Cut E (RT E.toTys [(false, .bool)])) := [⟨false, 7, ⟨cat [.one (.val (.int .i64)), .one (.val (.int .i64))] (ds 131), [], false⟩, fun k x => steeplelaw16_ExprOdd.j7 k x.1.1 x.1.2.1⟩,
  ⟨false, 6, ⟨ds 133, [], false⟩, fun k x => steeplelaw16_ExprOdd.j6 k⟩,
  ⟨true, 11, ⟨cat [.one (.val (.int .i64))] (cat (ds 11) (cat [.one (.val (.int .i64)), .one (.val (.any)), .one (.val (.int .i64))] (ds 118))), [], false⟩, fun k x => steeplelaw16_ExprOdd.l11 k x.1.1 x.1.2.1 x.1.2.2.1 x.1.2.2.2.1⟩]
theorem steeplelaw16_ExprOdd.ok (k : Nat) : Okf (XR E) Try.prog 3 (steeplelaw16_ExprOdd.sig k) := ⟨fn_ok (C := fun k => tab.ctx fun f => lk f (steeplelaw16_ExprOdd.calls k)) (fun k => tie _) k (fun j hj => calls_ok (kc (expr_Flat.ok j) (kc (steeplelaw16_awake.ok j) (kc (expr_Degree.ok j) (kc (expr_MustVar.ok j) (kn)))))) 400 Try.func3 (body := steeplelaw16_ExprOdd.body) (res := [.tmp 4]) rfl (by kernel_rfl) steeplelaw16_ExprOdd.cuts (kc ⟨by kernel_rfl, rfl, fun _ => rfl, fun _ _ => by kernel_rfl⟩ (kc ⟨by kernel_rfl, rfl, fun _ => rfl, fun _ _ => by kernel_rfl⟩ (kc ⟨by kernel_rfl, rfl, fun _ => rfl, fun _ _ => by kernel_rfl⟩ (kn)))) (fun x => by kernel_rfl), _, Try.func3, by kernel_rfl, by kernel_rfl⟩
/-! ### steeple/steeplelaw16.Ref: function 9 -/
def steeplelaw16_Ref.l3 : Nat → List S36 → Int → List S61 → Option (List S61)
  | 0, _, _, _ => none
  | k + 1, x0, x1, x2 => if x1 < (x0.length : Int) then (if 0 ≤ x1 then (if x1 < (x0.length : Int) then (if 0 ≤ x1 then (if x1 < (x0.length : Int) then (if 0 ≤ x1 then (if x1 < (x0.length : Int) then (if 0 ≤ x1 then (if x1 < (x0.length : Int) then (if x2.length + [(⟨(rd36 x0 x1).f0, (rd36 x0 x1).f1, (rd36 x0 x1).f2, (⟨(rd36 x0 x1).f3.f0, (rd36 x0 x1).f3.f1⟩ : S59)⟩ : S61)].length ≤ 140737488355328 / 40 then steeplelaw16_Ref.l3 k x0 (wrap64 (x1 + 1)) (x2 ++ [(⟨(rd36 x0 x1).f0, (rd36 x0 x1).f1, (rd36 x0 x1).f2, (⟨(rd36 x0 x1).f3.f0, (rd36 x0 x1).f3.f1⟩ : S59)⟩ : S61)]) else none) else none) else none) else none) else none) else none) else none) else none) else none) else some x2
def steeplelaw16_Ref.f (k : Nat) (a0 : List S36) : Option (List S61) := steeplelaw16_Ref.l3 k a0 0 []
def steeplelaw16_Ref.sig (k : Nat) : Sig E.toTys := ⟨[.slice (.st 3)], [(true, .slice (.st 8))], none, fun x => f k x.1⟩
noncomputable def steeplelaw16_Ref.body : Code := Try.f9.body.getD .skip
def steeplelaw16_Ref.calls (k : Nat) : List (Nat × Sig E.toTys) := []
def steeplelaw16_Ref.cuts : List (Cut E (RT E.toTys [(true, .slice (.st 8))])) := [⟨true, 3, ⟨cat [.one (.val (.slice (.st 3)))] (cat (ds 2) (cat [.one (.ref 0), .one (.val (.int .i64))] (ds 31))), [.arr (.st 8)], false⟩, fun k x => steeplelaw16_Ref.l3 k x.1.1 x.1.2.1 x.2.1⟩]
theorem steeplelaw16_Ref.ok (k : Nat) : Okf (XR E) Try.prog 9 (steeplelaw16_Ref.sig k) := ⟨fn_ok (C := fun k => tab.ctx fun f => lk f (steeplelaw16_Ref.calls k)) (fun k => tie _) k (fun j hj => calls_ok (kn)) 400 Try.func9 (body := steeplelaw16_Ref.body) (res := [.tmp 2]) rfl (by kernel_rfl) steeplelaw16_Ref.cuts (kc ⟨by kernel_rfl, rfl, fun _ => rfl, fun _ _ => by kernel_rfl⟩ (kn)) (fun x => by kernel_rfl), _, Try.func9, by kernel_rfl, by kernel_rfl⟩
/-! ### steeple/expr.Tree: function 10 -/
mutual
def expr_Tree.l6 : Nat → List S36 → Int → Int → List (Option (Nat × Value)) → Option ((Option (Nat × Value)) × Int)
  | 0, _, _, _, _ => none
  | k + 1, x0, x1, x2, x3 => if x2 < x1 then (if 0 ≤ x2 then (if x2 < (x0.length : Int) then (if (rd36 x0 x2).f0 = 1 then expr_Tree.j18 k (some ((65 : Nat), Value.agg #[Value.int .u64 (rd36 x0 x2).f3.f0, Value.int .u64 (rd36 x0 x2).f3.f1])) x0 x1 x2 x3 else if (rd36 x0 x2).f0 = 2 then expr_Tree.j18 k (some ((23 : Nat), Value.agg #[Value.int .i64 (rd36 x0 x2).f1])) x0 x1 x2 x3 else if (rd36 x0 x2).f0 = 3 then (if 0 ≤ (rd36 x0 x2).f1 then (if (rd36 x0 x2).f1 < (x3.length : Int) then (if 0 ≤ (rd36 x0 x2).f2 then (if (rd36 x0 x2).f2 < (x3.length : Int) then expr_Tree.j18 k (some ((31 : Nat), Value.agg #[anyV (List.getD x3 (Int.toNat (rd36 x0 x2).f1) none), anyV (List.getD x3 (Int.toNat (rd36 x0 x2).f2) none)])) x0 x1 x2 x3 else none) else none) else none) else none) else if (rd36 x0 x2).f0 = 4 then (if 0 ≤ (rd36 x0 x2).f1 then (if (rd36 x0 x2).f1 < (x3.length : Int) then (if 0 ≤ (rd36 x0 x2).f2 then (if (rd36 x0 x2).f2 < (x3.length : Int) then expr_Tree.j18 k (some ((26 : Nat), Value.agg #[anyV (List.getD x3 (Int.toNat (rd36 x0 x2).f1) none), anyV (List.getD x3 (Int.toNat (rd36 x0 x2).f2) none)])) x0 x1 x2 x3 else none) else none) else none) else none) else expr_Tree.j18 k none x0 x1 x2 x3) else none) else none) else if 0 ≤ wrap64 ((x3.length : Int) - 1) then (if wrap64 ((x3.length : Int) - 1) < (x3.length : Int) then some (List.getD x3 (Int.toNat (wrap64 ((x3.length : Int) - 1))) none, 0) else none) else none
def expr_Tree.j18 : Nat → Option (Nat × Value) → List S36 → Int → Int → List (Option (Nat × Value)) → Option ((Option (Nat × Value)) × Int)
  | 0, _, _, _, _, _ => none
  | k + 1, x0, x1, x2, x3, x4 => if x4.length + [x0].length ≤ 140737488355328 / 16 then expr_Tree.l6 k x1 x2 (wrap64 (x3 + 1)) (x4 ++ [x0]) else none
end
def expr_Tree.f (k : Nat) (a0 : List S36) : Option ((Option (Nat × Value)) × Int) := (expr_Check.f k 7 9223372036854775807 a0).bind fun r0 => if r0 = 0 then expr_Tree.l6 k a0 (a0.length : Int) 0 [] else some (none, r0)
def expr_Tree.sig (k : Nat) : Sig E.toTys := ⟨[.slice (.st 3)], [(false, .any), (false, .int .i64)], none, fun x => f k x.1⟩
noncomputable def expr_Tree.body : Code := Try.f10.body.getD .skip
def expr_Tree.calls (k : Nat) : List (Nat × Sig E.toTys) := [(19, expr_Check.sig k)]
def expr_Tree.cuts : List (Cut E (RT E.toTys [(false, .any), (false, .int .i64)])) := [⟨true, 6, ⟨cat (ds 5) (cat [.one (.ref 0)] (cat (ds 8) (cat [.one (.val (.slice (.st 3))), .one (.val (.int .i64)), .one (.val (.int .i64))] (ds 56)))), [.arr (.any)], false⟩, fun k x => expr_Tree.l6 k x.1.1 x.1.2.1 x.1.2.2.1 x.2.1⟩,
  ⟨false, 18, ⟨cat (ds 5) (cat [.one (.ref 0)] (cat (ds 2) (cat [.one (.val (.any))] (cat (ds 5) (cat [.one (.val (.slice (.st 3))), .one (.val (.int .i64)), .one (.val (.int .i64))] (ds 56)))))), [.arr (.any)], false⟩, fun k x => expr_Tree.j18 k x.1.1 x.1.2.1 x.1.2.2.1 x.1.2.2.2.1 x.2.1⟩]
theorem expr_Tree.ok (k : Nat) : Okf (XR E) Try.prog 10 (expr_Tree.sig k) := ⟨fn_ok (C := fun k => tab.ctx fun f => lk f (expr_Tree.calls k)) (fun k => tie _) k (fun j hj => calls_ok (kc (expr_Check.ok j) (kn))) 400 Try.func10 (body := expr_Tree.body) (res := [.tmp 2, .tmp 3]) rfl (by kernel_rfl) expr_Tree.cuts (kc ⟨by kernel_rfl, rfl, fun _ => rfl, fun _ _ => by kernel_rfl⟩ (kc ⟨by kernel_rfl, rfl, fun _ => rfl, fun _ _ => by kernel_rfl⟩ (kn))) (fun x => by kernel_rfl), _, Try.func10, by kernel_rfl, by kernel_rfl⟩
/-! ### steeple/steepleref01.bit: function 30 -/
def steepleref01_bit.f (k : Nat) (a0 : S59) (a1 : Int) : Option Int := if a1 ≥ 64 then (if 0 ≤ IntKind.u64.wrap (wrap64 (a1 - 64)) then some (bits .and .u64 (shr .u64 a0.f0 (IntKind.u64.wrap (wrap64 (a1 - 64)))) 1) else none) else if 0 ≤ IntKind.u64.wrap a1 then some (bits .and .u64 (shr .u64 a0.f1 (IntKind.u64.wrap a1)) 1) else none
def steepleref01_bit.sig (k : Nat) : Sig E.toTys := ⟨[.st 7, .int .i64], [(false, .int .u64)], none, fun x => f k x.1 x.2.1⟩
noncomputable def steepleref01_bit.body : Code := Try.f30.body.getD .skip
def steepleref01_bit.calls (k : Nat) : List (Nat × Sig E.toTys) := []
def steepleref01_bit.cuts : List (Cut E (RT E.toTys [(false, .int .u64)])) := []
theorem steepleref01_bit.ok (k : Nat) : Okf (XR E) Try.prog 30 (steepleref01_bit.sig k) := ⟨fn_ok (C := fun k => tab.ctx fun f => lk f (steepleref01_bit.calls k)) (fun k => tie _) k (fun j hj => calls_ok (kn)) 400 Try.func30 (body := steepleref01_bit.body) (res := [.tmp 4]) rfl (by kernel_rfl) steepleref01_bit.cuts (kn) (fun x => by kernel_rfl), _, Try.func30, by kernel_rfl, by kernel_rfl⟩
/-! ### steeple/steepleref01.Of: function 20 -/
def steepleref01_Of.l5 : Nat → Int → Int → Int → Option Bool
  | 0, _, _, _ => none
  | k + 1, x0, x1, x2 => if x0 < 128 then ((steepleref01_bit.f k (⟨x1, x2⟩ : S59) x0).bind fun r0 => if r0 = 1 then some false else steepleref01_Of.l5 k (wrap64 (x0 + 1)) x1 x2) else some true
def steepleref01_Of.f (k : Nat) (a0 : Int) (a1 : S59) : Option Bool := if a0 < 0 then some false else if a0 > 7 then some false else if 0 ≤ a0 then (if a0 < ([1, 2, 4, 8, 16, 32, 64, 128].length : Int) then steepleref01_Of.l5 k (rdI [1, 2, 4, 8, 16, 32, 64, 128] a0) a1.f0 a1.f1 else none) else none
def steepleref01_Of.sig (k : Nat) : Sig E.toTys := ⟨[.int .i64, .st 7], [(false, .bool)], none, fun x => f k x.1 x.2.1⟩
noncomputable def steepleref01_Of.body : Code := Try.f20.body.getD .skip
def steepleref01_Of.calls (k : Nat) : List (Nat × Sig E.toTys) := [(30, steepleref01_bit.sig k)]
def steepleref01_Of.cuts : List (Cut E (RT E.toTys [(false, .bool)])) := [⟨true, 5, ⟨cat (ds 3) (cat [.one (.ptr 0 0)] (cat (ds 2) (cat [.one (.val (.int .i64))] (ds 19)))), [.var [.val (.int .u64), .val (.int .u64)]], false⟩, fun k x => steepleref01_Of.l5 k x.1.1 x.2.1.1 x.2.1.2.1⟩]
theorem steepleref01_Of.ok (k : Nat) : Okf (XR E) Try.prog 20 (steepleref01_Of.sig k) := ⟨fn_ok (C := fun k => tab.ctx fun f => lk f (steepleref01_Of.calls k)) (fun k => tie _) k (fun j hj => calls_ok (kc (steepleref01_bit.ok j) (kn))) 400 Try.func20 (body := steepleref01_Of.body) (res := [.tmp 4]) rfl (by kernel_rfl) steepleref01_Of.cuts (kc ⟨by kernel_rfl, rfl, fun _ => rfl, fun _ _ => by kernel_rfl⟩ (kn)) (fun x => by kernel_rfl), _, Try.func20, by kernel_rfl, by kernel_rfl⟩
/-! ### steeple/steepleref16.DegreeAt: function 21 -/
mutual
def steepleref16_DegreeAt.l3 : Nat → List S61 → Int → Int → List Int → Option Int
  | 0, _, _, _, _ => none
  | k + 1, x0, x1, x2, x3 => if x2 ≤ x1 then (if 0 ≤ x2 then (if x2 < (x0.length : Int) then (if (rd61 x0 x2).f0 = 2 then steepleref16_DegreeAt.j8 k x0 x1 x2 1 x3 else steepleref16_DegreeAt.j8 k x0 x1 x2 0 x3) else none) else none) else if 0 ≤ x1 then (if x1 < (x3.length : Int) then some (rdI x3 x1) else none) else none
def steepleref16_DegreeAt.j8 : Nat → List S61 → Int → Int → Int → List Int → Option Int
  | 0, _, _, _, _, _ => none
  | k + 1, x0, x1, x2, x3, x4 => if 0 ≤ x2 then (if x2 < (x0.length : Int) then (if (rd61 x0 x2).f0 = 3 then (if 0 ≤ x2 then (if x2 < (x0.length : Int) then (if 0 ≤ (rd61 x0 x2).f1 then (if (rd61 x0 x2).f1 < (x4.length : Int) then (if 0 ≤ x2 then (if x2 < (x0.length : Int) then (if 0 ≤ (rd61 x0 x2).f2 then (if (rd61 x0 x2).f2 < (x4.length : Int) then (if rdI x4 (rd61 x0 x2).f2 > rdI x4 (rd61 x0 x2).f1 then (if 0 ≤ x2 then (if x2 < (x0.length : Int) then (if 0 ≤ (rd61 x0 x2).f2 then (if (rd61 x0 x2).f2 < (x4.length : Int) then steepleref16_DegreeAt.j12 k x0 x1 x2 (rdI x4 (rd61 x0 x2).f2) x4 else none) else none) else none) else none) else steepleref16_DegreeAt.j12 k x0 x1 x2 (rdI x4 (rd61 x0 x2).f1) x4) else none) else none) else none) else none) else none) else none) else none) else none) else steepleref16_DegreeAt.j12 k x0 x1 x2 x3 x4) else none) else none
def steepleref16_DegreeAt.j12 : Nat → List S61 → Int → Int → Int → List Int → Option Int
  | 0, _, _, _, _, _ => none
  | k + 1, x0, x1, x2, x3, x4 => if 0 ≤ x2 then (if x2 < (x0.length : Int) then (if (rd61 x0 x2).f0 = 4 then (if 0 ≤ x2 then (if x2 < (x0.length : Int) then (if 0 ≤ (rd61 x0 x2).f1 then (if (rd61 x0 x2).f1 < (x4.length : Int) then (if 0 ≤ x2 then (if x2 < (x0.length : Int) then (if 0 ≤ (rd61 x0 x2).f2 then (if (rd61 x0 x2).f2 < (x4.length : Int) then steepleref16_DegreeAt.j14 k x0 x1 x2 (wrap64 ((rdI x4 (rd61 x0 x2).f1) + (rdI x4 (rd61 x0 x2).f2))) x4 else none) else none) else none) else none) else none) else none) else none) else none) else steepleref16_DegreeAt.j14 k x0 x1 x2 x3 x4) else none) else none
def steepleref16_DegreeAt.j14 : Nat → List S61 → Int → Int → Int → List Int → Option Int
  | 0, _, _, _, _, _ => none
  | k + 1, x0, x1, x2, x3, x4 => if x4.length + [x3].length ≤ 140737488355328 / 8 then steepleref16_DegreeAt.j4 k x0 x1 x2 (x4 ++ [x3]) else none
def steepleref16_DegreeAt.j4 : Nat → List S61 → Int → Int → List Int → Option Int
  | 0, _, _, _, _ => none
  | k + 1, x0, x1, x2, x3 => steepleref16_DegreeAt.l3 k x0 x1 (wrap64 (x2 + 1)) x3
end
def steepleref16_DegreeAt.f (k : Nat) (a0 : List S61) (a1 : Int) : Option Int := steepleref16_DegreeAt.l3 k a0 a1 0 []
def steepleref16_DegreeAt.sig (k : Nat) : Sig E.toTys := ⟨[.slice (.st 8), .int .i64], [(false, .int .i64)], none, fun x => f k x.1 x.2.1⟩
noncomputable def steepleref16_DegreeAt.body : Code := Try.f21.body.getD .skip
def steepleref16_DegreeAt.calls (k : Nat) : List (Nat × Sig E.toTys) := []
def steepleref16_DegreeAt.cuts : List (Cut E (RT E.toTys [(false, .int .i64)])) := [⟨true, 3, ⟨cat [.one (.val (.slice (.st 8))), .one (.val (.int .i64))] (cat (ds 3) (cat [.one (.ref 0), .one (.val (.int .i64))] (ds 75))), [.arr (.int .i64)], false⟩, fun k x => steepleref16_DegreeAt.l3 k x.1.1 x.1.2.1 x.1.2.2.1 x.2.1⟩,
  ⟨false, 8, ⟨cat [.one (.val (.slice (.st 8))), .one (.val (.int .i64))] (cat (ds 3) (cat [.one (.ref 0), .one (.val (.int .i64)), .one (.val (.int .i64))] (ds 74))), [.arr (.int .i64)], false⟩, fun k x => steepleref16_DegreeAt.j8 k x.1.1 x.1.2.1 x.1.2.2.1 x.1.2.2.2.1 x.2.1⟩,
  ⟨false, 12, ⟨cat [.one (.val (.slice (.st 8))), .one (.val (.int .i64))] (cat (ds 3) (cat [.one (.ref 0), .one (.val (.int .i64)), .one (.val (.int .i64))] (ds 74))), [.arr (.int .i64)], false⟩, fun k x => steepleref16_DegreeAt.j12 k x.1.1 x.1.2.1 x.1.2.2.1 x.1.2.2.2.1 x.2.1⟩,
  ⟨false, 14, ⟨cat [.one (.val (.slice (.st 8))), .one (.val (.int .i64))] (cat (ds 3) (cat [.one (.ref 0), .one (.val (.int .i64)), .one (.val (.int .i64))] (ds 74))), [.arr (.int .i64)], false⟩, fun k x => steepleref16_DegreeAt.j14 k x.1.1 x.1.2.1 x.1.2.2.1 x.1.2.2.2.1 x.2.1⟩,
  ⟨false, 4, ⟨cat [.one (.val (.slice (.st 8))), .one (.val (.int .i64))] (cat (ds 3) (cat [.one (.ref 0), .one (.val (.int .i64))] (ds 75))), [.arr (.int .i64)], false⟩, fun k x => steepleref16_DegreeAt.j4 k x.1.1 x.1.2.1 x.1.2.2.1 x.2.1⟩]
theorem steepleref16_DegreeAt.ok (k : Nat) : Okf (XR E) Try.prog 21 (steepleref16_DegreeAt.sig k) := ⟨fn_ok (C := fun k => tab.ctx fun f => lk f (steepleref16_DegreeAt.calls k)) (fun k => tie _) k (fun j hj => calls_ok (kn)) 400 Try.func21 (body := steepleref16_DegreeAt.body) (res := [.tmp 4]) rfl (by kernel_rfl) steepleref16_DegreeAt.cuts (kc ⟨by kernel_rfl, rfl, fun _ => rfl, fun _ _ => by kernel_rfl⟩ (kc ⟨by kernel_rfl, rfl, fun _ => rfl, fun _ _ => by kernel_rfl⟩ (kc ⟨by kernel_rfl, rfl, fun _ => rfl, fun _ _ => by kernel_rfl⟩ (kc ⟨by kernel_rfl, rfl, fun _ => rfl, fun _ _ => by kernel_rfl⟩ (kc ⟨by kernel_rfl, rfl, fun _ => rfl, fun _ _ => by kernel_rfl⟩ (kn)))))) (fun x => by kernel_rfl), _, Try.func21, by kernel_rfl, by kernel_rfl⟩
end Go.Proofs.Ytlamlgfngpmhgaa.B
namespace Go.Proofs.Ytlamlgfngpmhgaa.B
open Go.Proofs.Ytlamlgfngpmhgaa.V.B Go.RowKit
set_option linter.unusedVariables false
/-! ### steeple/steepleref16.Check: function 11 -/
mutual
def steepleref16_Check.l9 : Nat → Int → Int → List S61 → Int → Int → Int → Option Int
  | 0, _, _, _, _, _, _ => none
  | k + 1, x0, x1, x2, x3, x4, x5 => if x3 < (x2.length : Int) then (if 0 ≤ x3 then (if x3 < (x2.length : Int) then (if (rd61 x2 x3).f0 < 1 then some 3 else if (rd61 x2 x3).f0 > 4 then some 3 else if (rd61 x2 x3).f0 = 1 then (if (rd61 x2 x3).f1 = 0 then (if (rd61 x2 x3).f2 = 0 then (if (rd61 x2 x3).f0 = 2 then (if (rd61 x2 x3).f2 = 0 then (if (rd61 x2 x3).f0 > 1 then (if (rd61 x2 x3).f3.f0 = x4 ∧ (rd61 x2 x3).f3.f1 = x5 then steepleref16_Check.j16 k x0 x1 x2 x3 x4 x5 (rd61 x2 x3).f0 (rd61 x2 x3).f1 (rd61 x2 x3).f2 (rd61 x2 x3).f3.f0 (rd61 x2 x3).f3.f1 else steepleref16_Check.j15 k) else steepleref16_Check.j16 k x0 x1 x2 x3 x4 x5 (rd61 x2 x3).f0 (rd61 x2 x3).f1 (rd61 x2 x3).f2 (rd61 x2 x3).f3.f0 (rd61 x2 x3).f3.f1) else steepleref16_Check.j15 k) else if (rd61 x2 x3).f0 > 1 then (if (rd61 x2 x3).f3.f0 = x4 ∧ (rd61 x2 x3).f3.f1 = x5 then steepleref16_Check.j16 k x0 x1 x2 x3 x4 x5 (rd61 x2 x3).f0 (rd61 x2 x3).f1 (rd61 x2 x3).f2 (rd61 x2 x3).f3.f0 (rd61 x2 x3).f3.f1 else steepleref16_Check.j15 k) else steepleref16_Check.j16 k x0 x1 x2 x3 x4 x5 (rd61 x2 x3).f0 (rd61 x2 x3).f1 (rd61 x2 x3).f2 (rd61 x2 x3).f3.f0 (rd61 x2 x3).f3.f1) else steepleref16_Check.j15 k) else steepleref16_Check.j15 k) else if (rd61 x2 x3).f0 = 2 then (if (rd61 x2 x3).f2 = 0 then (if (rd61 x2 x3).f0 > 1 then (if (rd61 x2 x3).f3.f0 = x4 ∧ (rd61 x2 x3).f3.f1 = x5 then steepleref16_Check.j16 k x0 x1 x2 x3 x4 x5 (rd61 x2 x3).f0 (rd61 x2 x3).f1 (rd61 x2 x3).f2 (rd61 x2 x3).f3.f0 (rd61 x2 x3).f3.f1 else steepleref16_Check.j15 k) else steepleref16_Check.j16 k x0 x1 x2 x3 x4 x5 (rd61 x2 x3).f0 (rd61 x2 x3).f1 (rd61 x2 x3).f2 (rd61 x2 x3).f3.f0 (rd61 x2 x3).f3.f1) else steepleref16_Check.j15 k) else if (rd61 x2 x3).f0 > 1 then (if (rd61 x2 x3).f3.f0 = x4 ∧ (rd61 x2 x3).f3.f1 = x5 then steepleref16_Check.j16 k x0 x1 x2 x3 x4 x5 (rd61 x2 x3).f0 (rd61 x2 x3).f1 (rd61 x2 x3).f2 (rd61 x2 x3).f3.f0 (rd61 x2 x3).f3.f1 else steepleref16_Check.j15 k) else steepleref16_Check.j16 k x0 x1 x2 x3 x4 x5 (rd61 x2 x3).f0 (rd61 x2 x3).f1 (rd61 x2 x3).f2 (rd61 x2 x3).f3.f0 (rd61 x2 x3).f3.f1) else none) else none) else some 0
def steepleref16_Check.j16 : Nat → Int → Int → List S61 → Int → Int → Int → Int → Int → Int → Int → Int → Option Int
  | 0, _, _, _, _, _, _, _, _, _, _, _ => none
  | k + 1, x0, x1, x2, x3, x4, x5, x6, x7, x8, x9, x10 => if x6 > 2 then (if x7 < 0 then steepleref16_Check.j17 k else if x7 ≥ x3 then steepleref16_Check.j17 k else if x8 < 0 then steepleref16_Check.j17 k else if x8 ≥ x3 then steepleref16_Check.j17 k else steepleref16_Check.j18 k x0 x1 x2 x3 x4 x5 x6 x7 x8 x9 x10) else steepleref16_Check.j18 k x0 x1 x2 x3 x4 x5 x6 x7 x8 x9 x10
def steepleref16_Check.j15 : Nat → Option Int
  | 0 => none
  | k + 1 => some 3
def steepleref16_Check.j17 : Nat → Option Int
  | 0 => none
  | k + 1 => some 3
def steepleref16_Check.j18 : Nat → Int → Int → List S61 → Int → Int → Int → Int → Int → Int → Int → Int → Option Int
  | 0, _, _, _, _, _, _, _, _, _, _, _ => none
  | k + 1, x0, x1, x2, x3, x4, x5, x6, x7, x8, x9, x10 => if x6 = 1 then ((steepleref01_Of.f k x0 (⟨x9, x10⟩ : S59)).bind fun r0 => if (!r0) = true then some 5 else steepleref16_Check.j20 k x0 x1 x2 x3 x4 x5 x6 x7 x8 x9 x10) else steepleref16_Check.j20 k x0 x1 x2 x3 x4 x5 x6 x7 x8 x9 x10
def steepleref16_Check.j20 : Nat → Int → Int → List S61 → Int → Int → Int → Int → Int → Int → Int → Int → Option Int
  | 0, _, _, _, _, _, _, _, _, _, _, _ => none
  | k + 1, x0, x1, x2, x3, x4, x5, x6, x7, _, _, _ => if x6 = 2 then (if x7 < 0 then steepleref16_Check.j21 k else if x7 ≥ x1 then steepleref16_Check.j21 k else steepleref16_Check.j22 k x0 x1 x2 x3 x4 x5) else steepleref16_Check.j22 k x0 x1 x2 x3 x4 x5
def steepleref16_Check.j21 : Nat → Option Int
  | 0 => none
  | k + 1 => some 4
def steepleref16_Check.j22 : Nat → Int → Int → List S61 → Int → Int → Int → Option Int
  | 0, _, _, _, _, _, _ => none
  | k + 1, x0, x1, x2, x3, x4, x5 => (steepleref16_DegreeAt.f k x2 x3).bind fun r1 => if r1 > 8 then some 7 else steepleref16_Check.j10 k x0 x1 x2 x3 x4 x5
def steepleref16_Check.j10 : Nat → Int → Int → List S61 → Int → Int → Int → Option Int
  | 0, _, _, _, _, _, _ => none
  | k + 1, x0, x1, x2, x3, x4, x5 => steepleref16_Check.l9 k x0 x1 x2 (wrap64 (x3 + 1)) x4 x5
end
def steepleref16_Check.f (k : Nat) (a0 : Int) (a1 : Int) (a2 : List S61) : Option Int := if a0 < 0 then some 1 else if a0 > 7 then some 1 else if a1 < 0 then some 1 else if (a2.length : Int) = 0 then some 3 else if (a2.length : Int) > 200 then some 2 else steepleref16_Check.l9 k a0 a1 a2 0 0 0
def steepleref16_Check.sig (k : Nat) : Sig E.toTys := ⟨[.int .i64, .int .i64, .slice (.st 8)], [(false, .int .i64)], none, fun x => f k x.1 x.2.1 x.2.2.1⟩
noncomputable def steepleref16_Check.body : Code := Try.f11.body.getD .skip
def steepleref16_Check.calls (k : Nat) : List (Nat × Sig E.toTys) := [(20, steepleref01_Of.sig k), (21, steepleref16_DegreeAt.sig k)]
def steepleref16_Check.cuts : List (Cut E (RT E.toTys [(false, .int .i64)])) := [⟨true, 9, ⟨cat [.one (.val (.int .i64)), .one (.val (.int .i64)), .one (.val (.slice (.st 8)))] (cat (ds 4) (cat [.one (.ptr 0 0), .one (.val (.int .i64))] (ds 122))), [.var [.val (.int .u64), .val (.int .u64)]], false⟩, fun k x => steepleref16_Check.l9 k x.1.1 x.1.2.1 x.1.2.2.1 x.1.2.2.2.1 x.2.1.1 x.2.1.2.1⟩,
  ⟨false, 16, ⟨cat [.one (.val (.int .i64)), .one (.val (.int .i64)), .one (.val (.slice (.st 8)))] (cat (ds 4) (cat [.one (.ptr 0 0), .one (.val (.int .i64)), .one (.ptr 1 0)] (ds 121))), [.var [.val (.int .u64), .val (.int .u64)], .var [.val (.int .i64), .val (.int .i64), .val (.int .i64), .val (.int .u64), .val (.int .u64)]], false⟩, fun k x => steepleref16_Check.j16 k x.1.1 x.1.2.1 x.1.2.2.1 x.1.2.2.2.1 x.2.1.1 x.2.1.2.1 x.2.2.1.1 x.2.2.1.2.1 x.2.2.1.2.2.1 x.2.2.1.2.2.2.1 x.2.2.1.2.2.2.2.1⟩,
  ⟨false, 15, ⟨ds 131, [], false⟩, fun k x => steepleref16_Check.j15 k⟩,
  ⟨false, 17, ⟨ds 131, [], false⟩, fun k x => steepleref16_Check.j17 k⟩,
  ⟨false, 18, ⟨cat [.one (.val (.int .i64)), .one (.val (.int .i64)), .one (.val (.slice (.st 8)))] (cat (ds 4) (cat [.one (.ptr 0 0), .one (.val (.int .i64)), .one (.ptr 1 0)] (ds 121))), [.var [.val (.int .u64), .val (.int .u64)], .var [.val (.int .i64), .val (.int .i64), .val (.int .i64), .val (.int .u64), .val (.int .u64)]], false⟩, fun k x => steepleref16_Check.j18 k x.1.1 x.1.2.1 x.1.2.2.1 x.1.2.2.2.1 x.2.1.1 x.2.1.2.1 x.2.2.1.1 x.2.2.1.2.1 x.2.2.1.2.2.1 x.2.2.1.2.2.2.1 x.2.2.1.2.2.2.2.1⟩,
  ⟨false, 20, ⟨cat [.one (.val (.int .i64)), .one (.val (.int .i64)), .one (.val (.slice (.st 8)))] (cat (ds 4) (cat [.one (.ptr 0 0), .one (.val (.int .i64)), .one (.ptr 1 0)] (ds 121))), [.var [.val (.int .u64), .val (.int .u64)], .var [.val (.int .i64), .val (.int .i64), .val (.int .i64), .val (.int .u64), .val (.int .u64)]], false⟩, fun k x => steepleref16_Check.j20 k x.1.1 x.1.2.1 x.1.2.2.1 x.1.2.2.2.1 x.2.1.1 x.2.1.2.1 x.2.2.1.1 x.2.2.1.2.1 x.2.2.1.2.2.1 x.2.2.1.2.2.2.1 x.2.2.1.2.2.2.2.1⟩,
  ⟨false, 21, ⟨ds 131, [], false⟩, fun k x => steepleref16_Check.j21 k⟩,
  ⟨false, 22, ⟨cat [.one (.val (.int .i64)), .one (.val (.int .i64)), .one (.val (.slice (.st 8)))] (cat (ds 4) (cat [.one (.ptr 0 0), .one (.val (.int .i64))] (ds 122))), [.var [.val (.int .u64), .val (.int .u64)]], false⟩, fun k x => steepleref16_Check.j22 k x.1.1 x.1.2.1 x.1.2.2.1 x.1.2.2.2.1 x.2.1.1 x.2.1.2.1⟩,
  ⟨false, 10, ⟨cat [.one (.val (.int .i64)), .one (.val (.int .i64)), .one (.val (.slice (.st 8)))] (cat (ds 4) (cat [.one (.ptr 0 0), .one (.val (.int .i64))] (ds 122))), [.var [.val (.int .u64), .val (.int .u64)]], false⟩, fun k x => steepleref16_Check.j10 k x.1.1 x.1.2.1 x.1.2.2.1 x.1.2.2.2.1 x.2.1.1 x.2.1.2.1⟩]
theorem steepleref16_Check.ok (k : Nat) : Okf (XR E) Try.prog 11 (steepleref16_Check.sig k) := ⟨fn_ok (C := fun k => tab.ctx fun f => lk f (steepleref16_Check.calls k)) (fun k => tie _) k (fun j hj => calls_ok (kc (steepleref01_Of.ok j) (kc (steepleref16_DegreeAt.ok j) (kn)))) 400 Try.func11 (body := steepleref16_Check.body) (res := [.tmp 6]) rfl (by kernel_rfl) steepleref16_Check.cuts (kc ⟨by kernel_rfl, rfl, fun _ => rfl, fun _ _ => by kernel_rfl⟩ (kc ⟨by kernel_rfl, rfl, fun _ => rfl, fun _ _ => by kernel_rfl⟩ (kc ⟨by kernel_rfl, rfl, fun _ => rfl, fun _ _ => by kernel_rfl⟩ (kc ⟨by kernel_rfl, rfl, fun _ => rfl, fun _ _ => by kernel_rfl⟩ (kc ⟨by kernel_rfl, rfl, fun _ => rfl, fun _ _ => by kernel_rfl⟩ (kc ⟨by kernel_rfl, rfl, fun _ => rfl, fun _ _ => by kernel_rfl⟩ (kc ⟨by kernel_rfl, rfl, fun _ => rfl, fun _ _ => by kernel_rfl⟩ (kc ⟨by kernel_rfl, rfl, fun _ => rfl, fun _ _ => by kernel_rfl⟩ (kc ⟨by kernel_rfl, rfl, fun _ => rfl, fun _ _ => by kernel_rfl⟩ (kn)))))))))) (fun x => by kernel_rfl), _, Try.func11, by kernel_rfl, by kernel_rfl⟩
/-! ### steeple/steepleref16.Long: function 12 -/
mutual
def steepleref16_Long.l3 : Nat → List S61 → Int → Int → List Int → Option Int
  | 0, _, _, _, _ => none
  | k + 1, x0, x1, x2, x3 => if x2 ≤ x1 then (if 0 ≤ x2 then (if x2 < (x0.length : Int) then (if (rd61 x0 x2).f0 > 2 then (if 0 ≤ x2 then (if x2 < (x0.length : Int) then (if 0 ≤ (rd61 x0 x2).f1 then (if (rd61 x0 x2).f1 < (x3.length : Int) then (if 0 ≤ x2 then (if x2 < (x0.length : Int) then (if 0 ≤ (rd61 x0 x2).f2 then (if (rd61 x0 x2).f2 < (x3.length : Int) then (if wrap64 ((wrap64 (1 + (rdI x3 (rd61 x0 x2).f1))) + (rdI x3 (rd61 x0 x2).f2)) > 201 then steepleref16_Long.j10 k x0 x1 x2 201 x3 else steepleref16_Long.j10 k x0 x1 x2 (wrap64 ((wrap64 (1 + (rdI x3 (rd61 x0 x2).f1))) + (rdI x3 (rd61 x0 x2).f2))) x3) else none) else none) else none) else none) else none) else none) else none) else none) else steepleref16_Long.j10 k x0 x1 x2 1 x3) else none) else none) else if 0 ≤ x1 then (if x1 < (x3.length : Int) then some (rdI x3 x1) else none) else none
def steepleref16_Long.j10 : Nat → List S61 → Int → Int → Int → List Int → Option Int
  | 0, _, _, _, _, _ => none
  | k + 1, x0, x1, x2, x3, x4 => if x4.length + [x3].length ≤ 140737488355328 / 8 then steepleref16_Long.j4 k x0 x1 x2 (x4 ++ [x3]) else none
def steepleref16_Long.j4 : Nat → List S61 → Int → Int → List Int → Option Int
  | 0, _, _, _, _ => none
  | k + 1, x0, x1, x2, x3 => steepleref16_Long.l3 k x0 x1 (wrap64 (x2 + 1)) x3
end
def steepleref16_Long.f (k : Nat) (a0 : List S61) (a1 : Int) : Option Int := steepleref16_Long.l3 k a0 a1 0 []
def steepleref16_Long.sig (k : Nat) : Sig E.toTys := ⟨[.slice (.st 8), .int .i64], [(false, .int .i64)], none, fun x => f k x.1 x.2.1⟩
noncomputable def steepleref16_Long.body : Code := Try.f12.body.getD .skip
def steepleref16_Long.calls (k : Nat) : List (Nat × Sig E.toTys) := []
def steepleref16_Long.cuts : List (Cut E (RT E.toTys [(false, .int .i64)])) := [⟨true, 3, ⟨cat [.one (.val (.slice (.st 8))), .one (.val (.int .i64))] (cat (ds 3) (cat [.one (.ref 0), .one (.val (.int .i64))] (ds 40))), [.arr (.int .i64)], false⟩, fun k x => steepleref16_Long.l3 k x.1.1 x.1.2.1 x.1.2.2.1 x.2.1⟩,
  ⟨false, 10, ⟨cat [.one (.val (.slice (.st 8))), .one (.val (.int .i64))] (cat (ds 3) (cat [.one (.ref 0), .one (.val (.int .i64)), .one (.val (.int .i64))] (ds 39))), [.arr (.int .i64)], false⟩, fun k x => steepleref16_Long.j10 k x.1.1 x.1.2.1 x.1.2.2.1 x.1.2.2.2.1 x.2.1⟩,
  ⟨false, 4, ⟨cat [.one (.val (.slice (.st 8))), .one (.val (.int .i64))] (cat (ds 3) (cat [.one (.ref 0), .one (.val (.int .i64))] (ds 40))), [.arr (.int .i64)], false⟩, fun k x => steepleref16_Long.j4 k x.1.1 x.1.2.1 x.1.2.2.1 x.2.1⟩]
theorem steepleref16_Long.ok (k : Nat) : Okf (XR E) Try.prog 12 (steepleref16_Long.sig k) := ⟨fn_ok (C := fun k => tab.ctx fun f => lk f (steepleref16_Long.calls k)) (fun k => tie _) k (fun j hj => calls_ok (kn)) 400 Try.func12 (body := steepleref16_Long.body) (res := [.tmp 4]) rfl (by kernel_rfl) steepleref16_Long.cuts (kc ⟨by kernel_rfl, rfl, fun _ => rfl, fun _ _ => by kernel_rfl⟩ (kc ⟨by kernel_rfl, rfl, fun _ => rfl, fun _ _ => by kernel_rfl⟩ (kc ⟨by kernel_rfl, rfl, fun _ => rfl, fun _ _ => by kernel_rfl⟩ (kn)))) (fun x => by kernel_rfl), _, Try.func12, by kernel_rfl, by kernel_rfl⟩
/-! ### steeple/steepleref16.Put: function 14 -/
def steepleref16_Put.f : Nat → List S61 → Int → List S61 → Option (List S61)
  | 0, _, _, _ => none
  | k + 1, a0, a1, a2 => if 0 ≤ a1 then (if a1 < (a0.length : Int) then (if (rd61 a0 a1).f0 > 2 then ((steepleref16_Put.f k a0 (rd61 a0 a1).f1 a2).bind fun r0 => (steepleref16_Put.f k a0 (rd61 a0 a1).f2 r0).bind fun r1 => if r1.length + [(⟨(rd61 a0 a1).f0, wrap64 ((r0.length : Int) - 1), wrap64 ((r1.length : Int) - 1), (rd61 a0 a1).f3⟩ : S61)].length ≤ 140737488355328 / 40 then some (r1 ++ [(⟨(rd61 a0 a1).f0, wrap64 ((r0.length : Int) - 1), wrap64 ((r1.length : Int) - 1), (rd61 a0 a1).f3⟩ : S61)]) else none) else if a2.length + [rd61 a0 a1].length ≤ 140737488355328 / 40 then some (a2 ++ [rd61 a0 a1]) else none) else none) else none
def steepleref16_Put.sig (k : Nat) : Sig E.toTys := ⟨[.slice (.st 8), .int .i64, .slice (.st 8)], [(true, .slice (.st 8))], some 1002, fun x => f k x.1 x.2.1 x.2.2.1⟩
noncomputable def steepleref16_Put.body : Code := Try.f14.body.getD .skip
def steepleref16_Put.calls (k : Nat) : List (Nat × Sig E.toTys) := [(14, steepleref16_Put.sig k)]
def steepleref16_Put.cuts : List (Cut E (RT E.toTys [(true, .slice (.st 8))])) := []
theorem steepleref16_Put.oks (k : Nat) : Okf (XR E) Try.prog 14 (steepleref16_Put.sig k) := by
  induction k using Nat.strongRecOn with
  | ind k ih =>
  cases k with
  | zero => exact ⟨ok0 fun _ => rfl, _, Try.func14, by kernel_rfl, by kernel_rfl⟩
  | succ k => exact ⟨fn_okUse (C := fun k => tab.ctx fun f => lk f (steepleref16_Put.calls k)) (fun k => tie _) k (fun j hj => calls_ok (kc (ih j (Nat.lt_succ_of_le hj)) (kn))) 400 2 (.slice (.st 8)) Try.func14 (body := steepleref16_Put.body) (res := [.tmp 6]) rfl (by kernel_rfl) steepleref16_Put.cuts (kn) (fun x => by kernel_rfl), _, Try.func14, by kernel_rfl, by kernel_rfl⟩
theorem steepleref16_Put.ok (k : Nat) : Okf (XR E) Try.prog 14 (steepleref16_Put.sig k) := (steepleref16_Put.oks k)
/-! ### steeple/steeplelaw16.same: function 13 -/
def steeplelaw16_same.l4 : Nat → List S61 → List S61 → Int → Option Bool
  | 0, _, _, _ => none
  | k + 1, x0, x1, x2 => if x2 < (x0.length : Int) then (if 0 ≤ x2 then (if x2 < (x0.length : Int) then (if 0 ≤ x2 then (if x2 < (x1.length : Int) then (if (rd61 x0 x2).f0 = (rd61 x1 x2).f0 ∧ (rd61 x0 x2).f1 = (rd61 x1 x2).f1 ∧ (rd61 x0 x2).f2 = (rd61 x1 x2).f2 ∧ (rd61 x0 x2).f3.f0 = (rd61 x1 x2).f3.f0 ∧ (rd61 x0 x2).f3.f1 = (rd61 x1 x2).f3.f1 then steeplelaw16_same.l4 k x0 x1 (wrap64 (x2 + 1)) else some false) else none) else none) else none) else none) else some true
def steeplelaw16_same.f (k : Nat) (a0 : List S61) (a1 : List S61) : Option Bool := if (a0.length : Int) = (a1.length : Int) then steeplelaw16_same.l4 k a0 a1 0 else some false
def steeplelaw16_same.sig (k : Nat) : Sig E.toTys := ⟨[.slice (.st 8), .slice (.st 8)], [(false, .bool)], none, fun x => f k x.1 x.2.1⟩
noncomputable def steeplelaw16_same.body : Code := Try.f13.body.getD .skip
def steeplelaw16_same.calls (k : Nat) : List (Nat × Sig E.toTys) := []
def steeplelaw16_same.cuts : List (Cut E (RT E.toTys [(false, .bool)])) := [⟨true, 4, ⟨cat [.one (.val (.slice (.st 8))), .one (.val (.slice (.st 8)))] (cat (ds 3) (cat [.one (.val (.int .i64))] (ds 20))), [], false⟩, fun k x => steeplelaw16_same.l4 k x.1.1 x.1.2.1 x.1.2.2.1⟩]
theorem steeplelaw16_same.ok (k : Nat) : Okf (XR E) Try.prog 13 (steeplelaw16_same.sig k) := ⟨fn_ok (C := fun k => tab.ctx fun f => lk f (steeplelaw16_same.calls k)) (fun k => tie _) k (fun j hj => calls_ok (kn)) 400 Try.func13 (body := steeplelaw16_same.body) (res := [.tmp 4]) rfl (by kernel_rfl) steeplelaw16_same.cuts (kc ⟨by kernel_rfl, rfl, fun _ => rfl, fun _ _ => by kernel_rfl⟩ (kn)) (fun x => by kernel_rfl), _, Try.func13, by kernel_rfl, by kernel_rfl⟩
/-! ### steeple/steeplelaw16.ExprTrees: function 4 -/
def steeplelaw16_ExprTrees.f (k : Nat) (a0 : Int) (a1 : List S36) (a2 : List S34) : Option Bool := if (a1.length : Int) > 60 then ((steeplelaw16_awake.f k).bind fun r0 => some r0) else if (a2.length : Int) > 20 then ((steeplelaw16_awake.f k).bind fun r1 => some r1) else (steeplelaw16_Ref.f k a1).bind fun r2 => (expr_Tree.f k a1).bind fun r3 => (steepleref16_Check.f k 7 9223372036854775807 r2).bind fun r4 => if r3.2 = r4 then (if r3.2 = 0 then ((expr_Flat.f k r3.1).bind fun r5 => (steepleref16_Long.f k r2 (wrap64 ((r2.length : Int) - 1))).bind fun r6 => if r6 > 200 then ((steeplelaw16_awake.f k).bind fun r7 => if r7 = true then (if r5.2 = 2 then some (decide ((r5.1.length : Int) = 0)) else some false) else some false) else if r5.2 = 0 then ((steeplelaw16_Ref.f k r5.1).bind fun r8 => (steepleref16_Put.f k r2 (wrap64 ((r2.length : Int) - 1)) []).bind fun r9 => (steeplelaw16_same.f k r8 r9).bind fun r10 => if (!r10) = true then some false else (expr_Eval.f k a0 a1 a2).bind fun r11 => (expr_Eval.f k a0 r5.1 a2).bind fun r12 => (steeplelaw16_awake.f k).bind fun r13 => if r13 = true then (if r11.2 = 0 then (if r12.2 = 0 then some (decide (r11.1.f0 = r12.1.f0 ∧ r11.1.f1 = r12.1.f1)) else some false) else some true) else some false) else some false) else (steeplelaw16_awake.f k).bind fun r14 => some r14) else some false
def steeplelaw16_ExprTrees.sig (k : Nat) : Sig E.toTys := ⟨[.int .i64, .slice (.st 3), .slice (.st 2)], [(false, .bool)], none, fun x => f k x.1 x.2.1 x.2.2.1⟩
noncomputable def steeplelaw16_ExprTrees.body : Code := Try.f4.body.getD .skip
def steeplelaw16_ExprTrees.calls (k : Nat) : List (Nat × Sig E.toTys) := [(6, steeplelaw16_awake.sig k), (9, steeplelaw16_Ref.sig k), (10, expr_Tree.sig k), (11, steepleref16_Check.sig k), (5, expr_Flat.sig k), (12, steepleref16_Long.sig k), (14, steepleref16_Put.sig k), (13, steeplelaw16_same.sig k), (15, expr_Eval.sig k)]
def steeplelaw16_ExprTrees.cuts : List (Cut E (RT E.toTys [(false, .bool)])) := []
theorem steeplelaw16_ExprTrees.ok (k : Nat) : Okf (XR E) Try.prog 4 (steeplelaw16_ExprTrees.sig k) := ⟨fn_ok (C := fun k => tab.ctx fun f => lk f (steeplelaw16_ExprTrees.calls k)) (fun k => tie _) k (fun j hj => calls_ok (kc (steeplelaw16_awake.ok j) (kc (steeplelaw16_Ref.ok j) (kc (expr_Tree.ok j) (kc (steepleref16_Check.ok j) (kc (expr_Flat.ok j) (kc (steepleref16_Long.ok j) (kc (steepleref16_Put.ok j) (kc (steeplelaw16_same.ok j) (kc (expr_Eval.ok j) (kn))))))))))) 400 Try.func4 (body := steeplelaw16_ExprTrees.body) (res := [.tmp 6]) rfl (by kernel_rfl) steeplelaw16_ExprTrees.cuts (kn) (fun x => by kernel_rfl), _, Try.func4, by kernel_rfl, by kernel_rfl⟩
end Go.Proofs.Ytlamlgfngpmhgaa.B

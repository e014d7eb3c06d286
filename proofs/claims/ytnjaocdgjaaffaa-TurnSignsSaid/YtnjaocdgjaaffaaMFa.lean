/- Own text: merged by pack2.py. -/
import Derived.Test.YtnjaocdgjaaffaaProg
import Derived.Test.YtnjaocdgjaaffaaMBa
import Derived.Test.YtnjaocdgjaaffaaMBb
import Derived.Test.YtnjaocdgjaaffaaMBc
set_option linter.unusedSimpArgs false
set_option linter.unusedVariables false
namespace Go.Proofs.Ytnjaocdgjaaffaa.B
open Go.Proofs.Ytnjaocdgjaaffaa.V.B Go.RowKit
set_option linter.unusedVariables false
structure S23 where
  f0 : Int
  f1 : Int
  f2 : Int
structure S30 where
  f0 : Int
  f1 : Int
structure S26 where
  f0 : List S30
  f1 : List S30
structure S40 where
  f0 : Int
  f1 : Int
structure S59 where
  f0 : Int
  f1 : Int
  f2 : Int
  f3 : S30
structure S46 where
  f0 : Int
  f1 : Int
  f2 : List S59
  f3 : List S30
  f4 : S30
structure S68 where
  f0 : Int
  f1 : Int
  f2 : Int
  f3 : S40
structure S77 where
  f0 : List Bool
  f1 : List S30
  f2 : List S30
def Es : Nat → Type
  | 0 => S23
  | 1 => S30
  | 2 => S26
  | 3 => S40
  | 4 => S59
  | 5 => S46
  | 6 => S68
  | 7 => S77
  | _ + 8 => Unit
def Efs : Nat → List Ty
  | 0 => [.int .i64, .int .i64, .int .i64]
  | 1 => [.int .u64, .int .u64]
  | 2 => [.slice (.st 1), .slice (.st 1)]
  | 3 => [.int .u64, .int .u64]
  | 4 => [.int .i64, .int .i64, .int .i64, .int .u64, .int .u64]
  | 5 => [.int .i64, .int .i64, .slice (.st 4), .slice (.st 1), .int .u64, .int .u64]
  | 6 => [.int .i64, .int .i64, .int .i64, .int .u64, .int .u64]
  | 7 => [.slice .bool, .slice (.st 1), .slice (.st 1)]
  | _ + 8 => []
def z23 : S23 := ⟨0, 0, 0⟩
def z30 : S30 := ⟨0, 0⟩
def z26 : S26 := ⟨[], []⟩
def z40 : S40 := ⟨0, 0⟩
def z59 : S59 := ⟨0, 0, 0, z30⟩
def z46 : S46 := ⟨0, 0, [], [], z30⟩
def z68 : S68 := ⟨0, 0, 0, z40⟩
def z77 : S77 := ⟨[], [], []⟩
def E : Env where
  S := Es
  fs := Efs
  z := fun n => match n with | 0 => z23 | 1 => z30 | 2 => z26 | 3 => z40 | 4 => z59 | 5 => z46 | 6 => z68 | 7 => z77 | _ + 8 => ()
  to := fun n => match n with | 0 => fun (x : S23) => (x.f0, x.f1, x.f2, ()) | 1 => fun (x : S30) => (x.f0, x.f1, ()) | 2 => fun (x : S26) => (x.f0, x.f1, ()) | 3 => fun (x : S40) => (x.f0, x.f1, ()) | 4 => fun (x : S59) => (x.f0, x.f1, x.f2, x.f3.f0, x.f3.f1, ()) | 5 => fun (x : S46) => (x.f0, x.f1, x.f2, x.f3, x.f4.f0, x.f4.f1, ()) | 6 => fun (x : S68) => (x.f0, x.f1, x.f2, x.f3.f0, x.f3.f1, ()) | 7 => fun (x : S77) => (x.f0, x.f1, x.f2, ()) | _ + 8 => fun _ => ()
  of := fun n => match n with | 0 => fun x => (⟨x.1, x.2.1, x.2.2.1⟩ : S23) | 1 => fun x => (⟨x.1, x.2.1⟩ : S30) | 2 => fun x => (⟨x.1, x.2.1⟩ : S26) | 3 => fun x => (⟨x.1, x.2.1⟩ : S40) | 4 => fun x => (⟨x.1, x.2.1, x.2.2.1, (⟨x.2.2.2.1, x.2.2.2.2.1⟩ : S30)⟩ : S59) | 5 => fun x => (⟨x.1, x.2.1, x.2.2.1, x.2.2.2.1, (⟨x.2.2.2.2.1, x.2.2.2.2.2.1⟩ : S30)⟩ : S46) | 6 => fun x => (⟨x.1, x.2.1, x.2.2.1, (⟨x.2.2.2.1, x.2.2.2.2.1⟩ : S40)⟩ : S68) | 7 => fun x => (⟨x.1, x.2.1, x.2.2.1⟩ : S77) | _ + 8 => fun _ => ()
  of_to := fun n => match n with | 0 => fun _ => rfl | 1 => fun _ => rfl | 2 => fun _ => rfl | 3 => fun _ => rfl | 4 => fun _ => rfl | 5 => fun _ => rfl | 6 => fun _ => rfl | 7 => fun _ => rfl | _ + 8 => fun _ => rfl
  to_of := fun n => match n with | 0 => fun _ => rfl | 1 => fun _ => rfl | 2 => fun _ => rfl | 3 => fun _ => rfl | 4 => fun _ => rfl | 5 => fun _ => rfl | 6 => fun _ => rfl | 7 => fun _ => rfl | _ + 8 => fun _ => rfl
theorem zl_ok : ∀ n, E.to n (E.z n) = zl E (E.fs n) := fun n => match n with | 0 => rfl | 1 => rfl | 2 => rfl | 3 => rfl | 4 => rfl | 5 => rfl | 6 => rfl | 7 => rfl | _ + 8 => rfl
def rd23 (xs : List S23) (i : Int) : S23 := xs.getD i.toNat z23
def rd30 (xs : List S30) (i : Int) : S30 := xs.getD i.toNat z30
def rd26 (xs : List S26) (i : Int) : S26 := xs.getD i.toNat z26
def rd40 (xs : List S40) (i : Int) : S40 := xs.getD i.toNat z40
def rd59 (xs : List S59) (i : Int) : S59 := xs.getD i.toNat z59
def rd46 (xs : List S46) (i : Int) : S46 := xs.getD i.toNat z46
def rd68 (xs : List S68) (i : Int) : S68 := xs.getD i.toNat z68
def rd77 (xs : List S77) (i : Int) : S77 := xs.getD i.toNat z77
def rdI (xs : List Int) (i : Int) : Int := xs.getD i.toNat 0
def rdB (xs : List Bool) (i : Int) : Bool := xs.getD i.toNat false
def rdL {α : Type} (xs : List (List α)) (i : Int) : List α := xs.getD i.toNat []
def by256_793 : ByteArray := ⟨#[0, 1, 2, 2, 3, 3, 3, 3, 4, 4, 4, 4, 4, 4, 4, 4, 5, 5, 5, 5, 5, 5, 5, 5, 5, 5, 5, 5, 5, 5, 5, 5, 6, 6, 6, 6, 6, 6, 6, 6, 6, 6, 6, 6, 6, 6, 6, 6, 6, 6, 6, 6, 6, 6, 6, 6, 6, 6, 6, 6, 6, 6, 6, 6, 7, 7, 7, 7, 7, 7, 7, 7, 7, 7, 7, 7, 7, 7, 7, 7, 7, 7, 7, 7, 7, 7, 7, 7, 7, 7, 7, 7, 7, 7, 7, 7, 7, 7, 7, 7, 7, 7, 7, 7, 7, 7, 7, 7, 7, 7, 7, 7, 7, 7, 7, 7, 7, 7, 7, 7, 7, 7, 7, 7, 7, 7, 7, 7, 8, 8, 8, 8, 8, 8, 8, 8, 8, 8, 8, 8, 8, 8, 8, 8, 8, 8, 8, 8, 8, 8, 8, 8, 8, 8, 8, 8, 8, 8, 8, 8, 8, 8, 8, 8, 8, 8, 8, 8, 8, 8, 8, 8, 8, 8, 8, 8, 8, 8, 8, 8, 8, 8, 8, 8, 8, 8, 8, 8, 8, 8, 8, 8, 8, 8, 8, 8, 8, 8, 8, 8, 8, 8, 8, 8, 8, 8, 8, 8, 8, 8, 8, 8, 8, 8, 8, 8, 8, 8, 8, 8, 8, 8, 8, 8, 8, 8, 8, 8, 8, 8, 8, 8, 8, 8, 8, 8, 8, 8, 8, 8, 8, 8, 8, 8, 8, 8, 8, 8, 8, 8, 8, 8, 8, 8, 8, 8]⟩
def tab : Tab := ⟨[(3, .int .i64), (4, .bool), (5, .int .u8), (23, .st 0), (24, .slice (.st 1)), (26, .st 2), (28, .int .u64), (30, .st 1), (31, .int .i64), (36, .slice (.st 3)), (39, .slice (.int .i64)), (40, .st 3), (44, .slice (.st 4)), (46, .st 5), (51, .slice (.st 6)), (59, .st 4), (68, .st 6), (75, .slice .bool), (77, .st 7), (95, .slice (.slice (.st 1))), (97, .arr 2 (.st 1)), (119, .slice (.st 1)), (126, .int .u64), (144, .slice (.slice (.st 1))), (156, .slice (.int .u64))], [(23, 0, 0, 3), (23, 1, 1, 3), (23, 2, 2, 3), (26, 0, 0, 24), (26, 1, 1, 24), (30, 0, 0, 28), (30, 1, 1, 28), (40, 0, 0, 28), (40, 1, 1, 28), (46, 0, 0, 3), (46, 1, 1, 3), (46, 2, 2, 44), (46, 3, 3, 24), (46, 4, 4, 30), (59, 0, 0, 3), (59, 1, 1, 3), (59, 2, 2, 3), (59, 3, 3, 30), (68, 0, 0, 3), (68, 1, 1, 3), (68, 2, 2, 3), (68, 3, 3, 40), (77, 0, 0, 75), (77, 1, 1, 24), (77, 2, 2, 24)], [(24, 16), (36, 16), (39, 8), (44, 40), (51, 40), (75, 1), (95, 24), (119, 16), (144, 24), (156, 8)], [(30, 2), (40, 2)], [9]⟩
theorem tab_ok : tab.chk E Try.prog = true := by kernel_rfl
theorem tie (calls : Nat → Option (Sig E.toTys)) : Tie (XR E) Try.prog (tab.ctx calls) := tie_of zl_ok tab_ok calls
end Go.Proofs.Ytnjaocdgjaaffaa.B
namespace Go.Proofs.Ytnjaocdgjaaffaa.B
open Go.Proofs.Ytnjaocdgjaaffaa.V.B Go.RowKit
set_option linter.unusedVariables false
/-! ### steeple/turn.Fits: function 59 -/
def turn_Fits.f (k : Nat) (a0 : Int) (a1 : Int) (a2 : Int) : Option Bool := if a0 ≥ 0 then (if a0 ≤ 3 then (if a1 ≥ 0 then (if a1 ≤ 6 then (if a2 ≥ 0 then (if 0 ≤ a1 then (if a2 < shl .i64 1 a1 then (if a0 = 0 then some (decide (a2 = 0)) else some true) else some false) else none) else some false) else some false) else some false) else some false) else some false
def turn_Fits.sig (k : Nat) : Sig E.toTys := ⟨[.int .i64, .int .i64, .int .i64], [(false, .bool)], none, fun x => f k x.1 x.2.1 x.2.2.1⟩
noncomputable def turn_Fits.body : Code := Try.f59.body.getD .skip
def turn_Fits.calls (k : Nat) : List (Nat × Sig E.toTys) := []
def turn_Fits.cuts : List (Cut E (RT E.toTys [(false, .bool)])) := []
theorem turn_Fits.ok (k : Nat) : Okf (XR E) Try.prog 59 (turn_Fits.sig k) := ⟨fn_ok (C := fun k => tab.ctx fun f => lk f (turn_Fits.calls k)) (fun k => tie _) k (fun j hj => calls_ok (kn)) 400 Try.func59 (body := turn_Fits.body) (res := [.tmp 6]) rfl (by kernel_rfl) turn_Fits.cuts (kn) (fun x => by kernel_rfl), _, Try.func59, by kernel_rfl, by kernel_rfl⟩
/-! ### steeple/turn.From: function 64 -/
mutual
def turn_From.j2 : Nat → Option Int
  | 0 => none
  | k + 1 => some (-1)
def turn_From.j5 : Nat → Int → Int → Int → Int → Option Int
  | 0, _, _, _, _ => none
  | k + 1, x0, x1, x2, x3 => if x0 = 2 then turn_From.j7 k x0 x1 x2 x3 else if x3 ≥ x2 then some (wrap64 (x3 - x2)) else turn_From.j7 k x0 x1 x2 x3
def turn_From.j7 : Nat → Int → Int → Int → Int → Option Int
  | 0, _, _, _, _ => none
  | k + 1, x0, x1, x2, x3 => if x0 = 3 then (if 0 ≤ x1 then some (wrap64 ((wrap64 (x3 - x2)) + (shl .i64 1 x1))) else none) else some (-1)
end
def turn_From.f (k : Nat) (a0 : Int) (a1 : Int) (a2 : Int) (a3 : Int) : Option Int := (turn_Fits.f k a0 a1 a2).bind fun r0 => if (!r0) = true then turn_From.j2 k else if a3 < 0 then turn_From.j2 k else if 0 ≤ a1 then (if a3 ≥ shl .i64 1 a1 then turn_From.j2 k else if a0 = 2 then (if 0 ≤ a1 then (if wrap64 (a3 + a2) < shl .i64 1 a1 then some (wrap64 (a3 + a2)) else turn_From.j5 k a0 a1 a2 a3) else none) else turn_From.j5 k a0 a1 a2 a3) else none
def turn_From.sig (k : Nat) : Sig E.toTys := ⟨[.int .i64, .int .i64, .int .i64, .int .i64], [(false, .int .i64)], none, fun x => f k x.1 x.2.1 x.2.2.1 x.2.2.2.1⟩
noncomputable def turn_From.body : Code := Try.f64.body.getD .skip
def turn_From.calls (k : Nat) : List (Nat × Sig E.toTys) := [(59, turn_Fits.sig k)]
def turn_From.cuts : List (Cut E (RT E.toTys [(false, .int .i64)])) := [⟨false, 2, ⟨ds 58, [], false⟩, fun k x => turn_From.j2 k⟩,
  ⟨false, 5, ⟨cat [.one (.val (.int .i64)), .one (.val (.int .i64)), .one (.val (.int .i64)), .one (.val (.int .i64))] (ds 54), [], false⟩, fun k x => turn_From.j5 k x.1.1 x.1.2.1 x.1.2.2.1 x.1.2.2.2.1⟩,
  ⟨false, 7, ⟨cat [.one (.val (.int .i64)), .one (.val (.int .i64)), .one (.val (.int .i64)), .one (.val (.int .i64))] (ds 54), [], false⟩, fun k x => turn_From.j7 k x.1.1 x.1.2.1 x.1.2.2.1 x.1.2.2.2.1⟩]
theorem turn_From.ok (k : Nat) : Okf (XR E) Try.prog 64 (turn_From.sig k) := ⟨fn_ok (C := fun k => tab.ctx fun f => lk f (turn_From.calls k)) (fun k => tie _) k (fun j hj => calls_ok (kc (turn_Fits.ok j) (kn))) 400 Try.func64 (body := turn_From.body) (res := [.tmp 8]) rfl (by kernel_rfl) turn_From.cuts (kc ⟨by kernel_rfl, rfl, fun _ => rfl, fun _ _ => by kernel_rfl⟩ (kc ⟨by kernel_rfl, rfl, fun _ => rfl, fun _ _ => by kernel_rfl⟩ (kc ⟨by kernel_rfl, rfl, fun _ => rfl, fun _ _ => by kernel_rfl⟩ (kn)))) (fun x => by kernel_rfl), _, Try.func64, by kernel_rfl, by kernel_rfl⟩
/-! ### steeple/turn.Bits: function 56 -/
def turn_Bits.l7 : Nat → Int → Int → Int → List Bool → Int → Int → List Bool → Option ((List Bool) × Int)
  | 0, _, _, _, _, _, _, _ => none
  | k + 1, x0, x1, x2, x3, x4, x5, x6 => if x5 < x4 then (if 0 ≤ x1 then ((turn_From.f k x0 x1 x2 (bits .and .i64 x5 (wrap64 ((shl .i64 1 x1) - 1)))).bind fun r1 => if r1 ≥ 0 then (if 0 ≤ wrap64 ((wrap64 (x5 - (bits .and .i64 x5 (wrap64 ((shl .i64 1 x1) - 1))))) + r1) then (if wrap64 ((wrap64 (x5 - (bits .and .i64 x5 (wrap64 ((shl .i64 1 x1) - 1))))) + r1) < (x3.length : Int) then (if 0 ≤ x5 then (if x5 < (x6.length : Int) then turn_Bits.l7 k x0 x1 x2 x3 x4 (wrap64 (x5 + 1)) (x6.set (Int.toNat x5) (rdB x3 (wrap64 ((wrap64 (x5 - (bits .and .i64 x5 (wrap64 ((shl .i64 1 x1) - 1))))) + r1)))) else none) else none) else none) else none) else turn_Bits.l7 k x0 x1 x2 x3 x4 (wrap64 (x5 + 1)) x6) else none) else some (x6, 0)
def turn_Bits.f (k : Nat) (a0 : Int) (a1 : Int) (a2 : Int) (a3 : List Bool) : Option ((List Bool) × Int) := (turn_Fits.f k a0 a1 a2).bind fun r0 => if (!r0) = true then some ([], 1) else if 0 ≤ a1 then (if shl .i64 1 a1 = 0 then none else if Int.tmod (a3.length : Int) (shl .i64 1 a1) = 0 then (if 0 ≤ (a3.length : Int) then (if (a3.length : Int) ≤ 140737488355328 / ((1 : Nat) : Int) then turn_Bits.l7 k a0 a1 a2 a3 (a3.length : Int) 0 (List.replicate (Int.toNat (a3.length : Int)) false) else none) else none) else some ([], 6)) else none
def turn_Bits.sig (k : Nat) : Sig E.toTys := ⟨[.int .i64, .int .i64, .int .i64, .slice .bool], [(true, .slice .bool), (false, .int .i64)], none, fun x => f k x.1 x.2.1 x.2.2.1 x.2.2.2.1⟩
noncomputable def turn_Bits.body : Code := Try.f56.body.getD .skip
def turn_Bits.calls (k : Nat) : List (Nat × Sig E.toTys) := [(59, turn_Fits.sig k), (64, turn_From.sig k)]
def turn_Bits.cuts : List (Cut E (RT E.toTys [(true, .slice .bool), (false, .int .i64)])) := [⟨true, 7, ⟨cat [.one (.val (.int .i64)), .one (.val (.int .i64)), .one (.val (.int .i64)), .one (.val (.slice .bool))] (cat (ds 6) (cat [.one (.ref 0)] (cat (ds 20) (cat [.one (.val (.int .i64)), .one (.val (.int .i64))] (ds 27))))), [.arr (.bool)], false⟩, fun k x => turn_Bits.l7 k x.1.1 x.1.2.1 x.1.2.2.1 x.1.2.2.2.1 x.1.2.2.2.2.1 x.1.2.2.2.2.2.1 x.2.1⟩]
theorem turn_Bits.ok (k : Nat) : Okf (XR E) Try.prog 56 (turn_Bits.sig k) := ⟨fn_ok (C := fun k => tab.ctx fun f => lk f (turn_Bits.calls k)) (fun k => tie _) k (fun j hj => calls_ok (kc (turn_Fits.ok j) (kc (turn_From.ok j) (kn)))) 400 Try.func56 (body := turn_Bits.body) (res := [.tmp 8, .tmp 9]) rfl (by kernel_rfl) turn_Bits.cuts (kc ⟨by kernel_rfl, rfl, fun _ => rfl, fun _ _ => by kernel_rfl⟩ (kn)) (fun x => by kernel_rfl), _, Try.func56, by kernel_rfl, by kernel_rfl⟩
/-! ### steeple/steeplelaw18.same: function 57 -/
def steeplelaw18_same.l4 : Nat → List Bool → List Bool → Int → Option Bool
  | 0, _, _, _ => none
  | k + 1, x0, x1, x2 => if x2 < (x0.length : Int) then (if 0 ≤ x2 then (if x2 < (x0.length : Int) then (if 0 ≤ x2 then (if x2 < (x1.length : Int) then (if (rdB x0 x2) = (rdB x1 x2) then steeplelaw18_same.l4 k x0 x1 (wrap64 (x2 + 1)) else some false) else none) else none) else none) else none) else some true
def steeplelaw18_same.f (k : Nat) (a0 : List Bool) (a1 : List Bool) : Option Bool := if (a0.length : Int) = (a1.length : Int) then steeplelaw18_same.l4 k a0 a1 0 else some false
def steeplelaw18_same.sig (k : Nat) : Sig E.toTys := ⟨[.slice .bool, .slice .bool], [(false, .bool)], none, fun x => f k x.1 x.2.1⟩
noncomputable def steeplelaw18_same.body : Code := Try.f57.body.getD .skip
def steeplelaw18_same.calls (k : Nat) : List (Nat × Sig E.toTys) := []
def steeplelaw18_same.cuts : List (Cut E (RT E.toTys [(false, .bool)])) := [⟨true, 4, ⟨cat [.one (.val (.slice .bool)), .one (.val (.slice .bool))] (cat (ds 3) (cat [.one (.val (.int .i64))] (ds 20))), [], false⟩, fun k x => steeplelaw18_same.l4 k x.1.1 x.1.2.1 x.1.2.2.1⟩]
theorem steeplelaw18_same.ok (k : Nat) : Okf (XR E) Try.prog 57 (steeplelaw18_same.sig k) := ⟨fn_ok (C := fun k => tab.ctx fun f => lk f (steeplelaw18_same.calls k)) (fun k => tie _) k (fun j hj => calls_ok (kn)) 400 Try.func57 (body := steeplelaw18_same.body) (res := [.tmp 4]) rfl (by kernel_rfl) steeplelaw18_same.cuts (kc ⟨by kernel_rfl, rfl, fun _ => rfl, fun _ _ => by kernel_rfl⟩ (kn)) (fun x => by kernel_rfl), _, Try.func57, by kernel_rfl, by kernel_rfl⟩
/-! ### steeple/steeplelaw18.awake: function 13 -/
def steeplelaw18_awake.f (k : Nat) : Option Bool := (turn_Bits.f k 1 2 1 [true, true, false, false]).bind fun r0 => (turn_Bits.f k 3 2 1 [false, false, false, true]).bind fun r1 => if r0.2 = 0 then (if r1.2 = 0 then ((steeplelaw18_same.f k r0.1 [false, true, true, false]).bind fun r2 => if r2 = true then ((steeplelaw18_same.f k r1.1 [true, false, false, false]).bind fun r3 => some r3) else some false) else some false) else some false
def steeplelaw18_awake.sig (k : Nat) : Sig E.toTys := ⟨[], [(false, .bool)], none, fun x => f k⟩
noncomputable def steeplelaw18_awake.body : Code := Try.f13.body.getD .skip
def steeplelaw18_awake.calls (k : Nat) : List (Nat × Sig E.toTys) := [(56, turn_Bits.sig k), (57, steeplelaw18_same.sig k)]
def steeplelaw18_awake.cuts : List (Cut E (RT E.toTys [(false, .bool)])) := []
theorem steeplelaw18_awake.ok (k : Nat) : Okf (XR E) Try.prog 13 (steeplelaw18_awake.sig k) := ⟨fn_ok (C := fun k => tab.ctx fun f => lk f (steeplelaw18_awake.calls k)) (fun k => tie _) k (fun j hj => calls_ok (kc (turn_Bits.ok j) (kc (steeplelaw18_same.ok j) (kn)))) 400 Try.func13 (body := steeplelaw18_awake.body) (res := [.tmp 0]) rfl (by kernel_rfl) steeplelaw18_awake.cuts (kn) (fun x => by kernel_rfl), _, Try.func13, by kernel_rfl, by kernel_rfl⟩
/-! ### steeple/octet.Wide: function 58 -/
def octet_Wide.f (k : Nat) (a0 : Int) : Option Int := if a0 < 0 then some 0 else if a0 > 7 then some 0 else if a0 ≤ 3 then some 1 else if 0 ≤ wrap64 (a0 - 3) then some (shl .i64 1 (wrap64 (a0 - 3))) else none
def octet_Wide.sig (k : Nat) : Sig E.toTys := ⟨[.int .i64], [(false, .int .i64)], none, fun x => f k x.1⟩
noncomputable def octet_Wide.body : Code := Try.f58.body.getD .skip
def octet_Wide.calls (k : Nat) : List (Nat × Sig E.toTys) := []
def octet_Wide.cuts : List (Cut E (RT E.toTys [(false, .int .i64)])) := []
theorem octet_Wide.ok (k : Nat) : Okf (XR E) Try.prog 58 (octet_Wide.sig k) := ⟨fn_ok (C := fun k => tab.ctx fun f => lk f (octet_Wide.calls k)) (fun k => tie _) k (fun j hj => calls_ok (kn)) 400 Try.func58 (body := octet_Wide.body) (res := [.tmp 2]) rfl (by kernel_rfl) octet_Wide.cuts (kn) (fun x => by kernel_rfl), _, Try.func58, by kernel_rfl, by kernel_rfl⟩
/-! ### steeple/octet.Of: function 70 -/
def octet_Of.f (k : Nat) (a0 : Int) (a1 : S30) : Option Bool := if a0 < 0 then some false else if a0 > 7 then some false else if a0 = 7 then some true else if a0 = 6 then some (decide (a1.f0 = 0)) else if a1.f0 = 0 then (if 0 ≤ a0 then (if 0 ≤ shl .u64 1 a0 then some (decide (shr .u64 a1.f1 (shl .u64 1 a0) = 0)) else none) else none) else some false
def octet_Of.sig (k : Nat) : Sig E.toTys := ⟨[.int .i64, .st 1], [(false, .bool)], none, fun x => f k x.1 x.2.1⟩
noncomputable def octet_Of.body : Code := Try.f70.body.getD .skip
def octet_Of.calls (k : Nat) : List (Nat × Sig E.toTys) := []
def octet_Of.cuts : List (Cut E (RT E.toTys [(false, .bool)])) := []
theorem octet_Of.ok (k : Nat) : Okf (XR E) Try.prog 70 (octet_Of.sig k) := ⟨fn_ok (C := fun k => tab.ctx fun f => lk f (octet_Of.calls k)) (fun k => tie _) k (fun j hj => calls_ok (kn)) 400 Try.func70 (body := octet_Of.body) (res := [.tmp 4]) rfl (by kernel_rfl) octet_Of.cuts (kn) (fun x => by kernel_rfl), _, Try.func70, by kernel_rfl, by kernel_rfl⟩
/-! ### steeple/turn.point$1: function 91 -/
def turn_point_1.f (k : Nat) (a0 : S30) (a1 : Option Int) : Option Bool := (match a1 with | none => none | some r0 => (octet_Of.f k r0 a0).bind fun r1 => some (!r1))
def turn_point_1.sig (k : Nat) : Sig E.toTys := ⟨[.st 1, .ptr (.int .i64)], [(false, .bool)], none, fun x => f k x.1 x.2.1⟩
noncomputable def turn_point_1.body : Code := Try.f91.body.getD .skip
def turn_point_1.calls (k : Nat) : List (Nat × Sig E.toTys) := [(70, octet_Of.sig k)]
def turn_point_1.cuts : List (Cut E (RT E.toTys [(false, .bool)])) := []
theorem turn_point_1.ok (k : Nat) : Okf (XR E) Try.prog 91 (turn_point_1.sig k) := ⟨fn_ok (C := fun k => tab.ctx fun f => lk f (turn_point_1.calls k)) (fun k => tie _) k (fun j hj => calls_ok (kc (octet_Of.ok j) (kn))) 400 Try.func91 (body := turn_point_1.body) (res := [.tmp 3]) rfl (by kernel_rfl) turn_point_1.cuts (kn) (fun x => by kernel_rfl), _, Try.func91, by kernel_rfl, by kernel_rfl⟩
/-! ### slices.IndexFunc: function 115 -/
def slices_IndexFunc115_c91.l2 : Nat → List S30 → Int → Int → Int → Option Int
  | 0, _, _, _, _ => none
  | k + 1, x0, x1, x2, x3 => if x3 < x2 then (if 0 ≤ x3 then (if x3 < (x0.length : Int) then ((turn_point_1.f k (rd30 x0 x3) (some x1)).bind fun r0 => if r0 = true then some x3 else slices_IndexFunc115_c91.l2 k x0 x1 x2 (wrap64 (x3 + 1))) else none) else none) else some (-1)
def slices_IndexFunc115_c91.f (k : Nat) (a0 : List S30) (a1 : Int) : Option Int := slices_IndexFunc115_c91.l2 k a0 a1 (a0.length : Int) 0
def slices_IndexFunc115_c91.sig (k : Nat) : Sig E.toTys := ⟨[.slice (.st 1), .ext 91 (.int .i64)], [(false, .int .i64)], none, fun x => f k x.1 x.2.1⟩
noncomputable def slices_IndexFunc115_c91.body : Code := Try.f115.body.getD .skip
def slices_IndexFunc115_c91.calls (k : Nat) : List (Nat × Sig E.toTys) := [(91, turn_point_1.sig k)]
def slices_IndexFunc115_c91.cuts : List (Cut E (RT E.toTys [(false, .int .i64)])) := [⟨true, 2, ⟨cat [.one (.val (.slice (.st 1))), .one (.val (.ext 91 (.int .i64)))] (cat (ds 5) (cat [.one (.val (.int .i64)), .one (.val (.int .i64))] (ds 10))), [], false⟩, fun k x => slices_IndexFunc115_c91.l2 k x.1.1 x.1.2.1 x.1.2.2.1 x.1.2.2.2.1⟩]
theorem slices_IndexFunc115_c91.ok (k : Nat) : Okf (XR E) Try.prog 115 (slices_IndexFunc115_c91.sig k) := ⟨fn_ok (C := fun k => tab.ctx fun f => lk f (slices_IndexFunc115_c91.calls k)) (fun k => tie _) k (fun j hj => calls_ok (kc (turn_point_1.ok j) (kn))) 400 Try.func115 (body := slices_IndexFunc115_c91.body) (res := [.tmp 4]) rfl (by kernel_rfl) slices_IndexFunc115_c91.cuts (kc ⟨by kernel_rfl, rfl, fun _ => rfl, fun _ _ => by kernel_rfl⟩ (kn)) (fun x => by kernel_rfl), _, Try.func115, by kernel_rfl, by kernel_rfl⟩
/-! ### slices.ContainsFunc: function 90 -/
def slices_ContainsFunc90_c91.f (k : Nat) (a0 : List S30) (a1 : Int) : Option Bool := (slices_IndexFunc115_c91.f k a0 a1).bind fun r0 => some (decide (r0 ≥ 0))
def slices_ContainsFunc90_c91.sig (k : Nat) : Sig E.toTys := ⟨[.slice (.st 1), .ext 91 (.int .i64)], [(false, .bool)], none, fun x => f k x.1 x.2.1⟩
noncomputable def slices_ContainsFunc90_c91.body : Code := Try.f90.body.getD .skip
def slices_ContainsFunc90_c91.calls (k : Nat) : List (Nat × Sig E.toTys) := [(115, slices_IndexFunc115_c91.sig k)]
def slices_ContainsFunc90_c91.cuts : List (Cut E (RT E.toTys [(false, .bool)])) := []
theorem slices_ContainsFunc90_c91.ok (k : Nat) : Okf (XR E) Try.prog 90 (slices_ContainsFunc90_c91.sig k) := ⟨fn_ok (C := fun k => tab.ctx fun f => lk f (slices_ContainsFunc90_c91.calls k)) (fun k => tie _) k (fun j hj => calls_ok (kc (slices_IndexFunc115_c91.ok j) (kn))) 400 Try.func90 (body := slices_ContainsFunc90_c91.body) (res := [.tmp 4]) rfl (by kernel_rfl) slices_ContainsFunc90_c91.cuts (kn) (fun x => by kernel_rfl), _, Try.func90, by kernel_rfl, by kernel_rfl⟩
/-! ### steeple/turn.point: function 60 -/
def turn_point.f (k : Nat) (a0 : Int) (a1 : Int) (a2 : List S30) : Option Int := if (a2.length : Int) = a1 then ((slices_ContainsFunc90_c91.f k a2 a0).bind fun r0 => if r0 = true then some 5 else some 0) else some 6
def turn_point.sig (k : Nat) : Sig E.toTys := ⟨[.int .i64, .int .i64, .slice (.st 1)], [(false, .int .i64)], none, fun x => f k x.1 x.2.1 x.2.2.1⟩
noncomputable def turn_point.body : Code := Try.f60.body.getD .skip
def turn_point.calls (k : Nat) : List (Nat × Sig E.toTys) := [(90, slices_ContainsFunc90_c91.sig k)]
def turn_point.cuts : List (Cut E (RT E.toTys [(false, .int .i64)])) := []
theorem turn_point.ok (k : Nat) : Okf (XR E) Try.prog 60 (turn_point.sig k) := ⟨fn_ok (C := fun k => tab.ctx fun f => lk f (turn_point.calls k)) (fun k => tie _) k (fun j hj => calls_ok (kc (slices_ContainsFunc90_c91.ok j) (kn))) 400 Try.func60 (body := turn_point.body) (res := [.tmp 6]) rfl (by kernel_rfl) turn_point.cuts (kn) (fun x => by kernel_rfl), _, Try.func60, by kernel_rfl, by kernel_rfl⟩
/-! ### steeple/tower.One: function 92 -/
def tower_One.f (k : Nat) : Option S30 := some (⟨0, 1⟩ : S30)
def tower_One.sig (k : Nat) : Sig E.toTys := ⟨[], [(false, .st 1)], none, fun x => f k⟩
noncomputable def tower_One.body : Code := Try.f92.body.getD .skip
def tower_One.calls (k : Nat) : List (Nat × Sig E.toTys) := []
def tower_One.cuts : List (Cut E (RT E.toTys [(false, .st 1)])) := []
theorem tower_One.ok (k : Nat) : Okf (XR E) Try.prog 92 (tower_One.sig k) := ⟨fn_ok (C := fun k => tab.ctx fun f => lk f (tower_One.calls k)) (fun k => tie _) k (fun j hj => calls_ok (kn)) 400 Try.func92 (body := tower_One.body) (res := [.cell 0 30]) rfl (by kernel_rfl) tower_One.cuts (kn) (fun x => by kernel_rfl), _, Try.func92, by kernel_rfl, by kernel_rfl⟩
/-! ### steeple/tower.Add: function 62 -/
def tower_Add.f (k : Nat) (a0 : S30) (a1 : S30) : Option S30 := some (⟨bits .xor .u64 a0.f0 a1.f0, bits .xor .u64 a0.f1 a1.f1⟩ : S30)
def tower_Add.sig (k : Nat) : Sig E.toTys := ⟨[.st 1, .st 1], [(false, .st 1)], none, fun x => f k x.1 x.2.1⟩
noncomputable def tower_Add.body : Code := Try.f62.body.getD .skip
def tower_Add.calls (k : Nat) : List (Nat × Sig E.toTys) := []
def tower_Add.cuts : List (Cut E (RT E.toTys [(false, .st 1)])) := []
theorem tower_Add.ok (k : Nat) : Okf (XR E) Try.prog 62 (tower_Add.sig k) := ⟨fn_ok (C := fun k => tab.ctx fun f => lk f (tower_Add.calls k)) (fun k => tie _) k (fun j hj => calls_ok (kn)) 400 Try.func62 (body := tower_Add.body) (res := [.cell 4 30]) rfl (by kernel_rfl) tower_Add.cuts (kn) (fun x => by kernel_rfl), _, Try.func62, by kernel_rfl, by kernel_rfl⟩
/-! ### steeple/turn.weight: function 93 -/
def turn_weight.f (k : Nat) (a0 : S30) (a1 : Int) : Option S30 := if a1 = 1 then some a0 else (tower_One.f k).bind fun r0 => (tower_Add.f k a0 r0).bind fun r1 => some r1
def turn_weight.sig (k : Nat) : Sig E.toTys := ⟨[.st 1, .int .i64], [(false, .st 1)], none, fun x => f k x.1 x.2.1⟩
noncomputable def turn_weight.body : Code := Try.f93.body.getD .skip
def turn_weight.calls (k : Nat) : List (Nat × Sig E.toTys) := [(92, tower_One.sig k), (62, tower_Add.sig k)]
def turn_weight.cuts : List (Cut E (RT E.toTys [(false, .st 1)])) := []
theorem turn_weight.ok (k : Nat) : Okf (XR E) Try.prog 93 (turn_weight.sig k) := ⟨fn_ok (C := fun k => tab.ctx fun f => lk f (turn_weight.calls k)) (fun k => tie _) k (fun j hj => calls_ok (kc (tower_One.ok j) (kc (tower_Add.ok j) (kn)))) 400 Try.func93 (body := turn_weight.body) (res := [.cell 4 30]) rfl (by kernel_rfl) turn_weight.cuts (kn) (fun x => by kernel_rfl), _, Try.func93, by kernel_rfl, by kernel_rfl⟩
/-! ### steeple/tower.halves: function 118 -/
def tower_halves.f (k : Nat) (a0 : Int) (a1 : Int) : Option (Int × Int) := if 0 ≤ wrap64 (a0 - 1) then (if 0 ≤ shl .i64 1 (wrap64 (a0 - 1)) then (if 0 ≤ shl .i64 1 (wrap64 (a0 - 1)) then some (shr .u64 a1 (shl .i64 1 (wrap64 (a0 - 1))), bits .and .u64 a1 (IntKind.u64.wrap ((shl .u64 1 (shl .i64 1 (wrap64 (a0 - 1)))) - 1))) else none) else none) else none
def tower_halves.sig (k : Nat) : Sig E.toTys := ⟨[.int .i64, .int .u64], [(false, .int .u64), (false, .int .u64)], none, fun x => f k x.1 x.2.1⟩
noncomputable def tower_halves.body : Code := Try.f118.body.getD .skip
def tower_halves.calls (k : Nat) : List (Nat × Sig E.toTys) := []
def tower_halves.cuts : List (Cut E (RT E.toTys [(false, .int .u64), (false, .int .u64)])) := []
theorem tower_halves.ok (k : Nat) : Okf (XR E) Try.prog 118 (tower_halves.sig k) := ⟨fn_ok (C := fun k => tab.ctx fun f => lk f (tower_halves.calls k)) (fun k => tie _) k (fun j hj => calls_ok (kn)) 400 Try.func118 (body := tower_halves.body) (res := [.tmp 4, .tmp 5]) rfl (by kernel_rfl) tower_halves.cuts (kn) (fun x => by kernel_rfl), _, Try.func118, by kernel_rfl, by kernel_rfl⟩
/-! ### steeple/tower.join: function 119 -/
def tower_join.f (k : Nat) (a0 : Int) (a1 : Int) (a2 : Int) : Option Int := if 0 ≤ wrap64 (a0 - 1) then (if 0 ≤ shl .u64 1 (wrap64 (a0 - 1)) then some (bits .or .u64 (shl .u64 a1 (shl .u64 1 (wrap64 (a0 - 1)))) a2) else none) else none
def tower_join.sig (k : Nat) : Sig E.toTys := ⟨[.int .i64, .int .u64, .int .u64], [(false, .int .u64)], none, fun x => f k x.1 x.2.1 x.2.2.1⟩
noncomputable def tower_join.body : Code := Try.f119.body.getD .skip
def tower_join.calls (k : Nat) : List (Nat × Sig E.toTys) := []
def tower_join.cuts : List (Cut E (RT E.toTys [(false, .int .u64)])) := []
theorem tower_join.ok (k : Nat) : Okf (XR E) Try.prog 119 (tower_join.sig k) := ⟨fn_ok (C := fun k => tab.ctx fun f => lk f (tower_join.calls k)) (fun k => tie _) k (fun j hj => calls_ok (kn)) 400 Try.func119 (body := tower_join.body) (res := [.tmp 6]) rfl (by kernel_rfl) tower_join.cuts (kn) (fun x => by kernel_rfl), _, Try.func119, by kernel_rfl, by kernel_rfl⟩
/-! ### steeple/tower.mulX: function 100 -/
def tower_mulX.f : Nat → Int → Int → Option Int
  | 0, _, _ => none
  | k + 1, a0, a1 => if a0 = 0 then some a1 else (tower_halves.f k a0 a1).bind fun r0 => (tower_mulX.f k (wrap64 (a0 - 1)) r0.1).bind fun r1 => (tower_join.f k a0 (bits .xor .u64 r0.2 r1) r0.1).bind fun r2 => some r2
def tower_mulX.sig (k : Nat) : Sig E.toTys := ⟨[.int .i64, .int .u64], [(false, .int .u64)], none, fun x => f k x.1 x.2.1⟩
noncomputable def tower_mulX.body : Code := Try.f100.body.getD .skip
def tower_mulX.calls (k : Nat) : List (Nat × Sig E.toTys) := [(118, tower_halves.sig k), (100, tower_mulX.sig k), (119, tower_join.sig k)]
def tower_mulX.cuts : List (Cut E (RT E.toTys [(false, .int .u64)])) := []
theorem tower_mulX.oks (k : Nat) : Okf (XR E) Try.prog 100 (tower_mulX.sig k) := by
  induction k using Nat.strongRecOn with
  | ind k ih =>
  cases k with
  | zero => exact ⟨ok0 fun _ => rfl, _, Try.func100, by kernel_rfl, by kernel_rfl⟩
  | succ k => exact ⟨fn_ok (C := fun k => tab.ctx fun f => lk f (tower_mulX.calls k)) (fun k => tie _) k (fun j hj => calls_ok (kc (tower_halves.ok j) (kc (ih j (Nat.lt_succ_of_le hj)) (kc (tower_join.ok j) (kn))))) 400 Try.func100 (body := tower_mulX.body) (res := [.tmp 4]) rfl (by kernel_rfl) tower_mulX.cuts (kn) (fun x => by kernel_rfl), _, Try.func100, by kernel_rfl, by kernel_rfl⟩
theorem tower_mulX.ok (k : Nat) : Okf (XR E) Try.prog 100 (tower_mulX.sig k) := (tower_mulX.oks k)
/-! ### steeple/tower.mul: function 99 -/
mutual
def tower_mul.j2 : Nat → Int → Int → Option Int
  | 0, _, _ => none
  | k + 1, x0, x1 => some (bits .and .u64 (bits .and .u64 x0 x1) 1)
def tower_mul.f : Nat → Int → Int → Int → Option Int
  | 0, _, _, _ => none
  | k + 1, a0, a1, a2 => if a0 = 0 then tower_mul.j2 k a1 a2 else if a1 = 0 then tower_mul.j2 k a1 a2 else if a2 = 0 then tower_mul.j2 k a1 a2 else (tower_halves.f k a0 a1).bind fun r0 => (tower_halves.f k a0 a2).bind fun r1 => (tower_mul.f k (wrap64 (a0 - 1)) r0.1 r1.1).bind fun r2 => (tower_mul.f k (wrap64 (a0 - 1)) r0.2 r1.2).bind fun r3 => (tower_mul.f k (wrap64 (a0 - 1)) (bits .xor .u64 r0.1 r0.2) (bits .xor .u64 r1.1 r1.2)).bind fun r4 => (tower_mulX.f k (wrap64 (a0 - 1)) r2).bind fun r5 => (tower_join.f k a0 (bits .xor .u64 (bits .xor .u64 (bits .xor .u64 r4 r2) r3) r5) (bits .xor .u64 r3 r2)).bind fun r6 => some r6
end
def tower_mul.sig (k : Nat) : Sig E.toTys := ⟨[.int .i64, .int .u64, .int .u64], [(false, .int .u64)], none, fun x => f k x.1 x.2.1 x.2.2.1⟩
noncomputable def tower_mul.body : Code := Try.f99.body.getD .skip
def tower_mul.calls (k : Nat) : List (Nat × Sig E.toTys) := [(118, tower_halves.sig k), (99, tower_mul.sig k), (100, tower_mulX.sig k), (119, tower_join.sig k)]
def tower_mul.cuts : List (Cut E (RT E.toTys [(false, .int .u64)])) := [⟨false, 2, ⟨cat (ds 1) (cat [.one (.val (.int .u64)), .one (.val (.int .u64))] (ds 71)), [], false⟩, fun k x => tower_mul.j2 k x.1.1 x.1.2.1⟩]
theorem tower_mul.oks (k : Nat) : Okf (XR E) Try.prog 99 (tower_mul.sig k) := by
  induction k using Nat.strongRecOn with
  | ind k ih =>
  cases k with
  | zero => exact ⟨ok0 fun _ => rfl, _, Try.func99, by kernel_rfl, by kernel_rfl⟩
  | succ k => exact ⟨fn_ok (C := fun k => tab.ctx fun f => lk f (tower_mul.calls k)) (fun k => tie _) k (fun j hj => calls_ok (kc (tower_halves.ok j) (kc (ih j (Nat.lt_succ_of_le hj)) (kc (tower_mulX.ok j) (kc (tower_join.ok j) (kn)))))) 400 Try.func99 (body := tower_mul.body) (res := [.tmp 6]) rfl (by kernel_rfl) tower_mul.cuts (kc ⟨by kernel_rfl, rfl, fun _ => rfl, fun _ _ => by kernel_rfl⟩ (kn)) (fun x => by kernel_rfl), _, Try.func99, by kernel_rfl, by kernel_rfl⟩
theorem tower_mul.ok (k : Nat) : Okf (XR E) Try.prog 99 (tower_mul.sig k) := (tower_mul.oks k)
/-! ### steeple/tower.Mul: function 74 -/
def tower_Mul.f (k : Nat) (a0 : Int) (a1 : S30) (a2 : S30) : Option S30 := (octet_Of.f k a0 a1).bind fun r0 => if (!r0) = true then some (⟨0, 0⟩ : S30) else (octet_Of.f k a0 a2).bind fun r1 => if (!r1) = true then some (⟨0, 0⟩ : S30) else if a0 ≤ 6 then ((tower_mul.f k a0 a1.f1 a2.f1).bind fun r2 => some (⟨0, r2⟩ : S30)) else (tower_mul.f k 6 a1.f0 a2.f0).bind fun r3 => (tower_mul.f k 6 a1.f1 a2.f1).bind fun r4 => (tower_mul.f k 6 (bits .xor .u64 a1.f0 a1.f1) (bits .xor .u64 a2.f0 a2.f1)).bind fun r5 => (tower_mulX.f k 6 r3).bind fun r6 => some (⟨bits .xor .u64 (bits .xor .u64 (bits .xor .u64 r5 r3) r4) r6, bits .xor .u64 r4 r3⟩ : S30)
def tower_Mul.sig (k : Nat) : Sig E.toTys := ⟨[.int .i64, .st 1, .st 1], [(false, .st 1)], none, fun x => f k x.1 x.2.1 x.2.2.1⟩
noncomputable def tower_Mul.body : Code := Try.f74.body.getD .skip
def tower_Mul.calls (k : Nat) : List (Nat × Sig E.toTys) := [(70, octet_Of.sig k), (99, tower_mul.sig k), (100, tower_mulX.sig k)]
def tower_Mul.cuts : List (Cut E (RT E.toTys [(false, .st 1)])) := []
theorem tower_Mul.ok (k : Nat) : Okf (XR E) Try.prog 74 (tower_Mul.sig k) := ⟨fn_ok (C := fun k => tab.ctx fun f => lk f (tower_Mul.calls k)) (fun k => tie _) k (fun j hj => calls_ok (kc (octet_Of.ok j) (kc (tower_mul.ok j) (kc (tower_mulX.ok j) (kn))))) 400 Try.func74 (body := tower_Mul.body) (res := [.cell 6 30]) rfl (by kernel_rfl) tower_Mul.cuts (kn) (fun x => by kernel_rfl), _, Try.func74, by kernel_rfl, by kernel_rfl⟩
/-! ### steeple/turn.sums: function 61 -/
mutual
def turn_sums.l3 : Nat → Int → Int → List S30 → List S30 → Int → Int → List S30 → List S30 → Option (List S30)
  | 0, _, _, _, _, _, _, _, _ => none
  | k + 1, x0, x1, x2, x3, x4, x5, x6, x7 => if x5 < x4 then turn_sums.l7 k x0 x1 x2 x3 x5 x4 x5 0 x6 x7 (List.replicate 2 z30) else some x7
def turn_sums.l7 : Nat → Int → Int → List S30 → List S30 → Int → Int → Int → Int → List S30 → List S30 → List S30 → Option (List S30)
  | 0, _, _, _, _, _, _, _, _, _, _, _ => none
  | k + 1, x0, x1, x2, x3, x4, x5, x6, x7, x8, x9, x10 => if x7 < 4 then (if 0 ≤ x4 then (if 0 ≤ x4 then (if x4 < (x2.length : Int) then ((turn_weight.f k (rd30 x2 x4) (bits .and .i64 x7 1)).bind fun r1 => if 0 ≤ x4 then (if x4 < (x3.length : Int) then ((turn_weight.f k (rd30 x3 x4) (bits .and .i64 (wrap64 ((wrap64 ((bits .and .i64 x7 1) + (bits .and .i64 (shr .i64 x1 x4) 1))) + (shr .i64 x7 1))) 1)).bind fun r2 => (tower_Mul.f k x0 r1 r2).bind fun r3 => if 0 ≤ shr .i64 (wrap64 ((wrap64 ((bits .and .i64 x7 1) + (bits .and .i64 (shr .i64 x1 x4) 1))) + (shr .i64 x7 1))) 1 then (if shr .i64 (wrap64 ((wrap64 ((bits .and .i64 x7 1) + (bits .and .i64 (shr .i64 x1 x4) 1))) + (shr .i64 x7 1))) 1 < ((2 : Nat) : Int) then (if 0 ≤ shr .i64 x7 1 then (if shr .i64 x7 1 < ((2 : Nat) : Int) then ((tower_Mul.f k x0 (rd30 x9 (shr .i64 x7 1)) r3).bind fun r4 => (tower_Add.f k (rd30 x10 (shr .i64 (wrap64 ((wrap64 ((bits .and .i64 x7 1) + (bits .and .i64 (shr .i64 x1 x4) 1))) + (shr .i64 x7 1))) 1)) r4).bind fun r5 => if 0 ≤ shr .i64 (wrap64 ((wrap64 ((bits .and .i64 x7 1) + (bits .and .i64 (shr .i64 x1 x4) 1))) + (shr .i64 x7 1))) 1 then (if shr .i64 (wrap64 ((wrap64 ((bits .and .i64 x7 1) + (bits .and .i64 (shr .i64 x1 x4) 1))) + (shr .i64 x7 1))) 1 < ((2 : Nat) : Int) then turn_sums.l7 k x0 x1 x2 x3 x4 x5 x6 (wrap64 (x7 + 1)) x8 x9 (x10.set (Int.toNat (shr .i64 (wrap64 ((wrap64 ((bits .and .i64 x7 1) + (bits .and .i64 (shr .i64 x1 x4) 1))) + (shr .i64 x7 1))) 1)) r5) else none) else none) else none) else none) else none) else none) else none) else none) else none) else none) else none) else turn_sums.l3 k x0 x1 x2 x3 x5 (wrap64 (x6 + 1)) x8 x10
end
def turn_sums.f (k : Nat) (a0 : Int) (a1 : Int) (a2 : List S30) (a3 : List S30) : Option (List S30) := (tower_One.f k).bind fun r0 => turn_sums.l3 k a0 a1 a2 a3 (a2.length : Int) 0 (List.replicate 2 z30) [r0, (⟨0, 0⟩ : S30)]
def turn_sums.sig (k : Nat) : Sig E.toTys := ⟨[.int .i64, .int .i64, .slice (.st 1), .slice (.st 1)], [(false, .arr 2 (.st 1))], none, fun x => f k x.1 x.2.1 x.2.2.1 x.2.2.2.1⟩
noncomputable def turn_sums.body : Code := Try.f61.body.getD .skip
def turn_sums.calls (k : Nat) : List (Nat × Sig E.toTys) := [(92, tower_One.sig k), (93, turn_weight.sig k), (74, tower_Mul.sig k), (62, tower_Add.sig k)]
def turn_sums.cuts : List (Cut E (RT E.toTys [(false, .arr 2 (.st 1))])) := [⟨true, 3, ⟨cat [.one (.val (.int .i64)), .one (.val (.int .i64)), .one (.val (.slice (.st 1))), .one (.val (.slice (.st 1)))] (cat (ds 4) (cat [.one (.ptr 0 0), .one (.ptr 1 0)] (cat (ds 11) (cat [.one (.val (.int .i64)), .one (.val (.int .i64))] (ds 50))))), [.avar 2 (.st 1), .avar 2 (.st 1)], false⟩, fun k x => turn_sums.l3 k x.1.1 x.1.2.1 x.1.2.2.1 x.1.2.2.2.1 x.1.2.2.2.2.1 x.1.2.2.2.2.2.1 x.2.1 x.2.2.1⟩,
  ⟨true, 7, ⟨cat [.one (.val (.int .i64)), .one (.val (.int .i64)), .one (.val (.slice (.st 1))), .one (.val (.slice (.st 1)))] (cat (ds 4) (cat [.one (.ptr 0 0), .one (.ptr 1 0), .one (.val (.int .i64)), .one (.ptr 2 0)] (cat (ds 9) (cat [.one (.val (.int .i64)), .one (.val (.int .i64))] (cat (ds 2) (cat [.one (.val (.int .i64))] (ds 47))))))), [.avar 2 (.st 1), .avar 2 (.st 1), .avar 2 (.st 1)], false⟩, fun k x => turn_sums.l7 k x.1.1 x.1.2.1 x.1.2.2.1 x.1.2.2.2.1 x.1.2.2.2.2.1 x.1.2.2.2.2.2.1 x.1.2.2.2.2.2.2.1 x.1.2.2.2.2.2.2.2.1 x.2.1 x.2.2.1 x.2.2.2.1⟩]
theorem turn_sums.ok (k : Nat) : Okf (XR E) Try.prog 61 (turn_sums.sig k) := ⟨fn_ok (C := fun k => tab.ctx fun f => lk f (turn_sums.calls k)) (fun k => tie _) k (fun j hj => calls_ok (kc (tower_One.ok j) (kc (turn_weight.ok j) (kc (tower_Mul.ok j) (kc (tower_Add.ok j) (kn)))))) 400 Try.func61 (body := turn_sums.body) (res := [.cell 8 97]) rfl (by kernel_rfl) turn_sums.cuts (kc ⟨by kernel_rfl, rfl, fun _ => rfl, fun _ _ => by kernel_rfl⟩ (kc ⟨by kernel_rfl, rfl, fun _ => rfl, fun _ _ => by kernel_rfl⟩ (kn))) (fun x => by kernel_rfl), _, Try.func61, by kernel_rfl, by kernel_rfl⟩
/-! ### steeple/turn.At: function 14 -/
def turn_At.l6 : Nat → Int → Int → Int → Int → List S30 → List S30 → Int → Int → Int → Int → List (List S30) → Option (S30 × Int)
  | 0, _, _, _, _, _, _, _, _, _, _, _ => none
  | k + 1, x0, x1, x2, x3, x4, x5, x6, x7, x8, x9, x10 => if x7 < x6 then (if 0 ≤ x7 then (if x7 < (x10.length : Int) then ((turn_point.f k x0 x2 (rdL x10 x7)).bind fun r2 => if r2 = 0 then turn_At.l6 k x0 x1 x2 x3 x4 x5 x6 (wrap64 (x7 + 1)) x8 x9 x10 else some ((⟨0, 0⟩ : S30), r2)) else none) else none) else if x1 = 2 then ((turn_sums.f k x0 x3 x4 x5).bind fun r3 => if 0 < ((2 : Nat) : Int) then some (rd30 r3 (0 : Int), 0) else none) else if x1 = 3 then ((turn_sums.f k x0 x3 x5 x4).bind fun r4 => if 0 < ((2 : Nat) : Int) then (if 1 < ((2 : Nat) : Int) then ((tower_Add.f k (rd30 r4 (0 : Int)) (rd30 r4 (1 : Int))).bind fun r5 => some (r5, 0)) else none) else none) else (turn_sums.f k x0 x3 x5 x4).bind fun r6 => if 0 < ((2 : Nat) : Int) then some (rd30 r6 (0 : Int), 0) else none
def turn_At.f (k : Nat) (a0 : Int) (a1 : Int) (a2 : Int) (a3 : Int) (a4 : List S30) (a5 : List S30) : Option (S30 × Int) := (octet_Wide.f k a0).bind fun r0 => if r0 = 0 then some ((⟨0, 0⟩ : S30), 1) else (turn_Fits.f k a1 a2 a3).bind fun r1 => if (!r1) = true then some ((⟨0, 0⟩ : S30), 1) else if (a5.length : Int) = a2 then turn_At.l6 k a0 a1 a2 a3 a4 a5 ([a4, a5].length : Int) 0 0 0 [a4, a5] else some ((⟨0, 0⟩ : S30), 6)
def turn_At.sig (k : Nat) : Sig E.toTys := ⟨[.int .i64, .int .i64, .int .i64, .int .i64, .slice (.st 1), .slice (.st 1)], [(false, .st 1), (false, .int .i64)], none, fun x => f k x.1 x.2.1 x.2.2.1 x.2.2.2.1 x.2.2.2.2.1 x.2.2.2.2.2.1⟩
noncomputable def turn_At.body : Code := Try.f14.body.getD .skip
def turn_At.calls (k : Nat) : List (Nat × Sig E.toTys) := [(58, octet_Wide.sig k), (59, turn_Fits.sig k), (60, turn_point.sig k), (61, turn_sums.sig k), (62, tower_Add.sig k)]
def turn_At.cuts : List (Cut E (RT E.toTys [(false, .st 1), (false, .int .i64)])) := [⟨true, 6, ⟨cat [.one (.val (.int .i64)), .one (.val (.int .i64)), .one (.val (.int .i64)), .one (.val (.int .i64)), .one (.val (.slice (.st 1))), .one (.val (.slice (.st 1)))] (cat (ds 6) (cat [.one (.ptr 0 0)] (cat (ds 23) (cat [.one (.ref 1), .one (.val (.int .i64)), .one (.val (.int .i64))] (ds 39))))), [.var [.val (.int .u64), .val (.int .u64)], .arr (.slice (.st 1))], false⟩, fun k x => turn_At.l6 k x.1.1 x.1.2.1 x.1.2.2.1 x.1.2.2.2.1 x.1.2.2.2.2.1 x.1.2.2.2.2.2.1 x.1.2.2.2.2.2.2.1 x.1.2.2.2.2.2.2.2.1 x.2.1.1 x.2.1.2.1 x.2.2.1⟩]
theorem turn_At.ok (k : Nat) : Okf (XR E) Try.prog 14 (turn_At.sig k) := ⟨fn_ok (C := fun k => tab.ctx fun f => lk f (turn_At.calls k)) (fun k => tie _) k (fun j hj => calls_ok (kc (octet_Wide.ok j) (kc (turn_Fits.ok j) (kc (turn_point.ok j) (kc (turn_sums.ok j) (kc (tower_Add.ok j) (kn))))))) 400 Try.func14 (body := turn_At.body) (res := [.cell 12 30, .tmp 13]) rfl (by kernel_rfl) turn_At.cuts (kc ⟨by kernel_rfl, rfl, fun _ => rfl, fun _ _ => by kernel_rfl⟩ (kn)) (fun x => by kernel_rfl), _, Try.func14, by kernel_rfl, by kernel_rfl⟩
/-! ### steeple/cube.of$1: function 116 -/
def cube_of_1.f (k : Nat) (a0 : S30) (a1 : Option Int) : Option Bool := (match a1 with | none => none | some r0 => (octet_Of.f k r0 a0).bind fun r1 => some (!r1))
def cube_of_1.sig (k : Nat) : Sig E.toTys := ⟨[.st 1, .ptr (.int .i64)], [(false, .bool)], none, fun x => f k x.1 x.2.1⟩
noncomputable def cube_of_1.body : Code := Try.f116.body.getD .skip
def cube_of_1.calls (k : Nat) : List (Nat × Sig E.toTys) := [(70, octet_Of.sig k)]
def cube_of_1.cuts : List (Cut E (RT E.toTys [(false, .bool)])) := []
theorem cube_of_1.ok (k : Nat) : Okf (XR E) Try.prog 116 (cube_of_1.sig k) := ⟨fn_ok (C := fun k => tab.ctx fun f => lk f (cube_of_1.calls k)) (fun k => tie _) k (fun j hj => calls_ok (kc (octet_Of.ok j) (kn))) 400 Try.func116 (body := cube_of_1.body) (res := [.tmp 3]) rfl (by kernel_rfl) cube_of_1.cuts (kn) (fun x => by kernel_rfl), _, Try.func116, by kernel_rfl, by kernel_rfl⟩
/-! ### slices.IndexFunc: function 115 -/
def slices_IndexFunc115_c116.l2 : Nat → List S30 → Int → Int → Int → Option Int
  | 0, _, _, _, _ => none
  | k + 1, x0, x1, x2, x3 => if x3 < x2 then (if 0 ≤ x3 then (if x3 < (x0.length : Int) then ((cube_of_1.f k (rd30 x0 x3) (some x1)).bind fun r0 => if r0 = true then some x3 else slices_IndexFunc115_c116.l2 k x0 x1 x2 (wrap64 (x3 + 1))) else none) else none) else some (-1)
def slices_IndexFunc115_c116.f (k : Nat) (a0 : List S30) (a1 : Int) : Option Int := slices_IndexFunc115_c116.l2 k a0 a1 (a0.length : Int) 0
def slices_IndexFunc115_c116.sig (k : Nat) : Sig E.toTys := ⟨[.slice (.st 1), .ext 116 (.int .i64)], [(false, .int .i64)], none, fun x => f k x.1 x.2.1⟩
noncomputable def slices_IndexFunc115_c116.body : Code := Try.f115.body.getD .skip
def slices_IndexFunc115_c116.calls (k : Nat) : List (Nat × Sig E.toTys) := [(116, cube_of_1.sig k)]
def slices_IndexFunc115_c116.cuts : List (Cut E (RT E.toTys [(false, .int .i64)])) := [⟨true, 2, ⟨cat [.one (.val (.slice (.st 1))), .one (.val (.ext 116 (.int .i64)))] (cat (ds 5) (cat [.one (.val (.int .i64)), .one (.val (.int .i64))] (ds 10))), [], false⟩, fun k x => slices_IndexFunc115_c116.l2 k x.1.1 x.1.2.1 x.1.2.2.1 x.1.2.2.2.1⟩]
theorem slices_IndexFunc115_c116.ok (k : Nat) : Okf (XR E) Try.prog 115 (slices_IndexFunc115_c116.sig k) := ⟨fn_ok (C := fun k => tab.ctx fun f => lk f (slices_IndexFunc115_c116.calls k)) (fun k => tie _) k (fun j hj => calls_ok (kc (cube_of_1.ok j) (kn))) 400 Try.func115 (body := slices_IndexFunc115_c116.body) (res := [.tmp 4]) rfl (by kernel_rfl) slices_IndexFunc115_c116.cuts (kc ⟨by kernel_rfl, rfl, fun _ => rfl, fun _ _ => by kernel_rfl⟩ (kn)) (fun x => by kernel_rfl), _, Try.func115, by kernel_rfl, by kernel_rfl⟩
/-! ### slices.ContainsFunc: function 90 -/
def slices_ContainsFunc90_c116.f (k : Nat) (a0 : List S30) (a1 : Int) : Option Bool := (slices_IndexFunc115_c116.f k a0 a1).bind fun r0 => some (decide (r0 ≥ 0))
def slices_ContainsFunc90_c116.sig (k : Nat) : Sig E.toTys := ⟨[.slice (.st 1), .ext 116 (.int .i64)], [(false, .bool)], none, fun x => f k x.1 x.2.1⟩
noncomputable def slices_ContainsFunc90_c116.body : Code := Try.f90.body.getD .skip
def slices_ContainsFunc90_c116.calls (k : Nat) : List (Nat × Sig E.toTys) := [(115, slices_IndexFunc115_c116.sig k)]
def slices_ContainsFunc90_c116.cuts : List (Cut E (RT E.toTys [(false, .bool)])) := []
theorem slices_ContainsFunc90_c116.ok (k : Nat) : Okf (XR E) Try.prog 90 (slices_ContainsFunc90_c116.sig k) := ⟨fn_ok (C := fun k => tab.ctx fun f => lk f (slices_ContainsFunc90_c116.calls k)) (fun k => tie _) k (fun j hj => calls_ok (kc (slices_IndexFunc115_c116.ok j) (kn))) 400 Try.func90 (body := slices_ContainsFunc90_c116.body) (res := [.tmp 4]) rfl (by kernel_rfl) slices_ContainsFunc90_c116.cuts (kn) (fun x => by kernel_rfl), _, Try.func90, by kernel_rfl, by kernel_rfl⟩
/-! ### steeple/cube.of: function 94 -/
def cube_of.f (k : Nat) (a0 : Int) (a1 : List S30) : Option Bool := (slices_ContainsFunc90_c116.f k a1 a0).bind fun r0 => some (!r0)
def cube_of.sig (k : Nat) : Sig E.toTys := ⟨[.int .i64, .slice (.st 1)], [(false, .bool)], none, fun x => f k x.1 x.2.1⟩
noncomputable def cube_of.body : Code := Try.f94.body.getD .skip
def cube_of.calls (k : Nat) : List (Nat × Sig E.toTys) := [(90, slices_ContainsFunc90_c116.sig k)]
def cube_of.cuts : List (Cut E (RT E.toTys [(false, .bool)])) := []
theorem cube_of.ok (k : Nat) : Okf (XR E) Try.prog 94 (cube_of.sig k) := ⟨fn_ok (C := fun k => tab.ctx fun f => lk f (cube_of.calls k)) (fun k => tie _) k (fun j hj => calls_ok (kc (slices_ContainsFunc90_c116.ok j) (kn))) 400 Try.func94 (body := cube_of.body) (res := [.tmp 4]) rfl (by kernel_rfl) cube_of.cuts (kn) (fun x => by kernel_rfl), _, Try.func94, by kernel_rfl, by kernel_rfl⟩
/-! ### steeple/cube.Weights: function 63 -/
mutual
def cube_Weights.l5 : Nat → Int → List S30 → Int → Int → List S30 → Option (List S30)
  | 0, _, _, _, _, _ => none
  | k + 1, x0, x1, x2, x3, x4 => if x3 < x2 then (if 0 ≤ x3 then (if x3 < (x1.length : Int) then (if 0 ≤ (x4.length : Int) then (if (x4.length : Int) ≤ 140737488355328 / ((16 : Nat) : Int) then cube_Weights.l9 k x0 x1 x2 x3 (x4.length : Int) 0 x4 (rd30 x1 x3).f0 (rd30 x1 x3).f1 (List.replicate (Int.toNat (x4.length : Int)) z30) else none) else none) else none) else none) else some x4
def cube_Weights.l9 : Nat → Int → List S30 → Int → Int → Int → Int → List S30 → Int → Int → List S30 → Option (List S30)
  | 0, _, _, _, _, _, _, _, _, _, _ => none
  | k + 1, x0, x1, x2, x3, x4, x5, x6, x7, x8, x9 => if x5 < x4 then (if 0 ≤ x5 then (if x5 < (x6.length : Int) then ((tower_Mul.f k x0 (rd30 x6 x5) (⟨x7, x8⟩ : S30)).bind fun r3 => if 0 ≤ x5 then (if x5 < (x9.length : Int) then (if 0 ≤ x5 then (if x5 < ((x9.set (Int.toNat x5) r3).length : Int) then ((tower_Add.f k (rd30 x6 x5) (rd30 (x9.set (Int.toNat x5) r3) x5)).bind fun r4 => if 0 ≤ x5 then (if x5 < (x6.length : Int) then cube_Weights.l9 k x0 x1 x2 x3 x4 (wrap64 (x5 + 1)) (x6.set (Int.toNat x5) r4) x7 x8 (x9.set (Int.toNat x5) r3) else none) else none) else none) else none) else none) else none) else none) else none) else if x6.length + x9.length ≤ 140737488355328 / 16 then cube_Weights.l5 k x0 x1 x2 (wrap64 (x3 + 1)) (x6 ++ x9) else none
end
def cube_Weights.f (k : Nat) (a0 : Int) (a1 : List S30) : Option (List S30) := (octet_Wide.f k a0).bind fun r0 => if r0 = 0 then some [] else if (a1.length : Int) > 16 then some [] else (cube_of.f k a0 a1).bind fun r1 => if (!r1) = true then some [] else (tower_One.f k).bind fun r2 => cube_Weights.l5 k a0 a1 (a1.length : Int) 0 [r2]
def cube_Weights.sig (k : Nat) : Sig E.toTys := ⟨[.int .i64, .slice (.st 1)], [(true, .slice (.st 1))], none, fun x => f k x.1 x.2.1⟩
noncomputable def cube_Weights.body : Code := Try.f63.body.getD .skip
def cube_Weights.calls (k : Nat) : List (Nat × Sig E.toTys) := [(58, octet_Wide.sig k), (94, cube_of.sig k), (92, tower_One.sig k), (74, tower_Mul.sig k), (62, tower_Add.sig k)]
def cube_Weights.cuts : List (Cut E (RT E.toTys [(true, .slice (.st 1))])) := [⟨true, 5, ⟨cat [.one (.val (.int .i64))] (cat (ds 4) (cat [.one (.ref 0)] (cat (ds 21) (cat [.one (.val (.slice (.st 1))), .one (.val (.int .i64)), .one (.val (.int .i64))] (ds 35))))), [.arr (.st 1)], false⟩, fun k x => cube_Weights.l5 k x.1.1 x.1.2.1 x.1.2.2.1 x.1.2.2.2.1 x.2.1⟩,
  ⟨true, 9, ⟨cat [.one (.val (.int .i64))] (cat (ds 4) (cat [.one (.ref 0)] (cat (ds 1) (cat [.one (.ptr 1 0), .one (.ref 2)] (cat (ds 18) (cat [.one (.val (.slice (.st 1))), .one (.val (.int .i64)), .one (.val (.int .i64))] (cat (ds 6) (cat [.one (.ref 0), .one (.val (.int .i64)), .one (.val (.int .i64))] (ds 26))))))))), [.arr (.st 1), .var [.val (.int .u64), .val (.int .u64)], .arr (.st 1)], false⟩, fun k x => cube_Weights.l9 k x.1.1 x.1.2.1 x.1.2.2.1 x.1.2.2.2.1 x.1.2.2.2.2.1 x.1.2.2.2.2.2.1 x.2.1 x.2.2.1.1 x.2.2.1.2.1 x.2.2.2.1⟩]
theorem cube_Weights.ok (k : Nat) : Okf (XR E) Try.prog 63 (cube_Weights.sig k) := ⟨fn_ok (C := fun k => tab.ctx fun f => lk f (cube_Weights.calls k)) (fun k => tie _) k (fun j hj => calls_ok (kc (octet_Wide.ok j) (kc (cube_of.ok j) (kc (tower_One.ok j) (kc (tower_Mul.ok j) (kc (tower_Add.ok j) (kn))))))) 400 Try.func63 (body := cube_Weights.body) (res := [.tmp 4]) rfl (by kernel_rfl) cube_Weights.cuts (kc ⟨by kernel_rfl, rfl, fun _ => rfl, fun _ _ => by kernel_rfl⟩ (kc ⟨by kernel_rfl, rfl, fun _ => rfl, fun _ _ => by kernel_rfl⟩ (kn))) (fun x => by kernel_rfl), _, Try.func63, by kernel_rfl, by kernel_rfl⟩
/-! ### steeple/turn.Row: function 15 -/
def turn_Row.l8 : Nat → Int → Int → Int → Int → Int → List S30 → List S30 → Option ((List S30) × Int)
  | 0, _, _, _, _, _, _, _ => none
  | k + 1, x0, x1, x2, x3, x4, x5, x6 => if x4 < x3 then (if 0 ≤ x4 then (if x4 < (x6.length : Int) then ((turn_From.f k x0 x1 x2 x4).bind fun r4 => if r4 ≥ 0 then (if 0 ≤ r4 then (if r4 < (x5.length : Int) then ((tower_Add.f k (rd30 x5 r4) (rd30 x6 x4)).bind fun r5 => if 0 ≤ r4 then (if r4 < (x5.length : Int) then turn_Row.l8 k x0 x1 x2 x3 (wrap64 (x4 + 1)) (x5.set (Int.toNat r4) r5) x6 else none) else none) else none) else none) else turn_Row.l8 k x0 x1 x2 x3 (wrap64 (x4 + 1)) x5 x6) else none) else none) else some (x5, 0)
def turn_Row.f (k : Nat) (a0 : Int) (a1 : Int) (a2 : Int) (a3 : Int) (a4 : List S30) : Option ((List S30) × Int) := (octet_Wide.f k a0).bind fun r0 => if r0 = 0 then some ([], 1) else (turn_Fits.f k a1 a2 a3).bind fun r1 => if (!r1) = true then some ([], 1) else (turn_point.f k a0 a2 a4).bind fun r2 => if r2 = 0 then (if 0 ≤ a2 then (if 0 ≤ shl .i64 1 a2 then (if shl .i64 1 a2 ≤ 140737488355328 / ((16 : Nat) : Int) then ((cube_Weights.f k a0 a4).bind fun r3 => turn_Row.l8 k a1 a2 a3 (r3.length : Int) 0 (List.replicate (Int.toNat (shl .i64 1 a2)) z30) r3) else none) else none) else none) else some ([], r2)
def turn_Row.sig (k : Nat) : Sig E.toTys := ⟨[.int .i64, .int .i64, .int .i64, .int .i64, .slice (.st 1)], [(true, .slice (.st 1)), (false, .int .i64)], none, fun x => f k x.1 x.2.1 x.2.2.1 x.2.2.2.1 x.2.2.2.2.1⟩
noncomputable def turn_Row.body : Code := Try.f15.body.getD .skip
def turn_Row.calls (k : Nat) : List (Nat × Sig E.toTys) := [(58, octet_Wide.sig k), (59, turn_Fits.sig k), (60, turn_point.sig k), (63, cube_Weights.sig k), (64, turn_From.sig k), (62, tower_Add.sig k)]
def turn_Row.cuts : List (Cut E (RT E.toTys [(true, .slice (.st 1)), (false, .int .i64)])) := [⟨true, 8, ⟨cat (ds 1) (cat [.one (.val (.int .i64)), .one (.val (.int .i64)), .one (.val (.int .i64))] (cat (ds 9) (cat [.one (.ref 0)] (cat (ds 25) (cat [.one (.ref 1), .one (.val (.int .i64)), .one (.val (.int .i64))] (ds 22)))))), [.arr (.st 1), .arr (.st 1)], false⟩, fun k x => turn_Row.l8 k x.1.1 x.1.2.1 x.1.2.2.1 x.1.2.2.2.1 x.1.2.2.2.2.1 x.2.1 x.2.2.1⟩]
theorem turn_Row.ok (k : Nat) : Okf (XR E) Try.prog 15 (turn_Row.sig k) := ⟨fn_ok (C := fun k => tab.ctx fun f => lk f (turn_Row.calls k)) (fun k => tie _) k (fun j hj => calls_ok (kc (octet_Wide.ok j) (kc (turn_Fits.ok j) (kc (turn_point.ok j) (kc (cube_Weights.ok j) (kc (turn_From.ok j) (kc (tower_Add.ok j) (kn)))))))) 400 Try.func15 (body := turn_Row.body) (res := [.tmp 10, .tmp 11]) rfl (by kernel_rfl) turn_Row.cuts (kc ⟨by kernel_rfl, rfl, fun _ => rfl, fun _ _ => by kernel_rfl⟩ (kn)) (fun x => by kernel_rfl), _, Try.func15, by kernel_rfl, by kernel_rfl⟩
/-! ### steeple/steeplelaw01.Ref: function 16 -/
def steeplelaw01_Ref.l3 : Nat → List S30 → Int → List S40 → Option (List S40)
  | 0, _, _, _ => none
  | k + 1, x0, x1, x2 => if x1 < (x0.length : Int) then (if 0 ≤ x1 then (if x1 < (x0.length : Int) then (if x2.length + [(⟨(rd30 x0 x1).f0, (rd30 x0 x1).f1⟩ : S40)].length ≤ 140737488355328 / 16 then steeplelaw01_Ref.l3 k x0 (wrap64 (x1 + 1)) (x2 ++ [(⟨(rd30 x0 x1).f0, (rd30 x0 x1).f1⟩ : S40)]) else none) else none) else none) else some x2
def steeplelaw01_Ref.f (k : Nat) (a0 : List S30) : Option (List S40) := steeplelaw01_Ref.l3 k a0 0 []
def steeplelaw01_Ref.sig (k : Nat) : Sig E.toTys := ⟨[.slice (.st 1)], [(true, .slice (.st 3))], none, fun x => f k x.1⟩
noncomputable def steeplelaw01_Ref.body : Code := Try.f16.body.getD .skip
def steeplelaw01_Ref.calls (k : Nat) : List (Nat × Sig E.toTys) := []
def steeplelaw01_Ref.cuts : List (Cut E (RT E.toTys [(true, .slice (.st 3))])) := [⟨true, 3, ⟨cat [.one (.val (.slice (.st 1)))] (cat (ds 2) (cat [.one (.ref 0), .one (.val (.int .i64))] (ds 14))), [.arr (.st 3)], false⟩, fun k x => steeplelaw01_Ref.l3 k x.1.1 x.1.2.1 x.2.1⟩]
theorem steeplelaw01_Ref.ok (k : Nat) : Okf (XR E) Try.prog 16 (steeplelaw01_Ref.sig k) := ⟨fn_ok (C := fun k => tab.ctx fun f => lk f (steeplelaw01_Ref.calls k)) (fun k => tie _) k (fun j hj => calls_ok (kn)) 400 Try.func16 (body := steeplelaw01_Ref.body) (res := [.tmp 2]) rfl (by kernel_rfl) steeplelaw01_Ref.cuts (kc ⟨by kernel_rfl, rfl, fun _ => rfl, fun _ _ => by kernel_rfl⟩ (kn)) (fun x => by kernel_rfl), _, Try.func16, by kernel_rfl, by kernel_rfl⟩
/-! ### steeple/steepleref15.Two: function 29 -/
def steepleref15_Two.l3 : Nat → Int → Int → Int → Option Int
  | 0, _, _, _ => none
  | k + 1, x0, x1, x2 => if x2 < x0 then steepleref15_Two.l3 k x0 (wrap64 (2 * x1)) (wrap64 (x2 + 1)) else some x1
def steepleref15_Two.f (k : Nat) (a0 : Int) : Option Int := steepleref15_Two.l3 k a0 1 0
def steepleref15_Two.sig (k : Nat) : Sig E.toTys := ⟨[.int .i64], [(false, .int .i64)], none, fun x => f k x.1⟩
noncomputable def steepleref15_Two.body : Code := Try.f29.body.getD .skip
def steepleref15_Two.calls (k : Nat) : List (Nat × Sig E.toTys) := []
def steepleref15_Two.cuts : List (Cut E (RT E.toTys [(false, .int .i64)])) := [⟨true, 3, ⟨cat [.one (.val (.int .i64))] (cat (ds 2) (cat [.one (.val (.int .i64)), .one (.val (.int .i64))] (ds 8))), [], false⟩, fun k x => steepleref15_Two.l3 k x.1.1 x.1.2.1 x.1.2.2.1⟩]
theorem steepleref15_Two.ok (k : Nat) : Okf (XR E) Try.prog 29 (steepleref15_Two.sig k) := ⟨fn_ok (C := fun k => tab.ctx fun f => lk f (steepleref15_Two.calls k)) (fun k => tie _) k (fun j hj => calls_ok (kn)) 400 Try.func29 (body := steepleref15_Two.body) (res := [.tmp 2]) rfl (by kernel_rfl) steepleref15_Two.cuts (kc ⟨by kernel_rfl, rfl, fun _ => rfl, fun _ _ => by kernel_rfl⟩ (kn)) (fun x => by kernel_rfl), _, Try.func29, by kernel_rfl, by kernel_rfl⟩
/-! ### steeple/steepleref18.Fits: function 65 -/
def steepleref18_Fits.j2 : Nat → Option Bool
  | 0 => none
  | k + 1 => some false
def steepleref18_Fits.f (k : Nat) (a0 : Int) (a1 : Int) (a2 : Int) : Option Bool := if a0 < 0 then steepleref18_Fits.j2 k else if a0 > 3 then steepleref18_Fits.j2 k else if a1 < 0 then steepleref18_Fits.j2 k else if a1 > 6 then steepleref18_Fits.j2 k else if a2 < 0 then steepleref18_Fits.j2 k else (steepleref15_Two.f k a1).bind fun r0 => if a2 ≥ r0 then steepleref18_Fits.j2 k else if a0 = 0 then some (decide (a2 = 0)) else some true
def steepleref18_Fits.sig (k : Nat) : Sig E.toTys := ⟨[.int .i64, .int .i64, .int .i64], [(false, .bool)], none, fun x => f k x.1 x.2.1 x.2.2.1⟩
noncomputable def steepleref18_Fits.body : Code := Try.f65.body.getD .skip
def steepleref18_Fits.calls (k : Nat) : List (Nat × Sig E.toTys) := [(29, steepleref15_Two.sig k)]
def steepleref18_Fits.cuts : List (Cut E (RT E.toTys [(false, .bool)])) := [⟨false, 2, ⟨ds 37, [], false⟩, fun k x => steepleref18_Fits.j2 k⟩]
theorem steepleref18_Fits.ok (k : Nat) : Okf (XR E) Try.prog 65 (steepleref18_Fits.sig k) := ⟨fn_ok (C := fun k => tab.ctx fun f => lk f (steepleref18_Fits.calls k)) (fun k => tie _) k (fun j hj => calls_ok (kc (steepleref15_Two.ok j) (kn))) 400 Try.func65 (body := steepleref18_Fits.body) (res := [.tmp 6]) rfl (by kernel_rfl) steepleref18_Fits.cuts (kc ⟨by kernel_rfl, rfl, fun _ => rfl, fun _ _ => by kernel_rfl⟩ (kn)) (fun x => by kernel_rfl), _, Try.func65, by kernel_rfl, by kernel_rfl⟩
/-! ### steeple/steepleref01.bit: function 75 -/
def steepleref01_bit.f (k : Nat) (a0 : S40) (a1 : Int) : Option Int := if a1 ≥ 64 then (if 0 ≤ IntKind.u64.wrap (wrap64 (a1 - 64)) then some (bits .and .u64 (shr .u64 a0.f0 (IntKind.u64.wrap (wrap64 (a1 - 64)))) 1) else none) else if 0 ≤ IntKind.u64.wrap a1 then some (bits .and .u64 (shr .u64 a0.f1 (IntKind.u64.wrap a1)) 1) else none
def steepleref01_bit.sig (k : Nat) : Sig E.toTys := ⟨[.st 3, .int .i64], [(false, .int .u64)], none, fun x => f k x.1 x.2.1⟩
noncomputable def steepleref01_bit.body : Code := Try.f75.body.getD .skip
def steepleref01_bit.calls (k : Nat) : List (Nat × Sig E.toTys) := []
def steepleref01_bit.cuts : List (Cut E (RT E.toTys [(false, .int .u64)])) := []
theorem steepleref01_bit.ok (k : Nat) : Okf (XR E) Try.prog 75 (steepleref01_bit.sig k) := ⟨fn_ok (C := fun k => tab.ctx fun f => lk f (steepleref01_bit.calls k)) (fun k => tie _) k (fun j hj => calls_ok (kn)) 400 Try.func75 (body := steepleref01_bit.body) (res := [.tmp 4]) rfl (by kernel_rfl) steepleref01_bit.cuts (kn) (fun x => by kernel_rfl), _, Try.func75, by kernel_rfl, by kernel_rfl⟩
/-! ### steeple/steepleref01.Of: function 28 -/
def steepleref01_Of.l5 : Nat → Int → Int → Int → Option Bool
  | 0, _, _, _ => none
  | k + 1, x0, x1, x2 => if x0 < 128 then ((steepleref01_bit.f k (⟨x1, x2⟩ : S40) x0).bind fun r0 => if r0 = 1 then some false else steepleref01_Of.l5 k (wrap64 (x0 + 1)) x1 x2) else some true
def steepleref01_Of.f (k : Nat) (a0 : Int) (a1 : S40) : Option Bool := if a0 < 0 then some false else if a0 > 7 then some false else if 0 ≤ a0 then (if a0 < ([1, 2, 4, 8, 16, 32, 64, 128].length : Int) then steepleref01_Of.l5 k (rdI [1, 2, 4, 8, 16, 32, 64, 128] a0) a1.f0 a1.f1 else none) else none
def steepleref01_Of.sig (k : Nat) : Sig E.toTys := ⟨[.int .i64, .st 3], [(false, .bool)], none, fun x => f k x.1 x.2.1⟩
noncomputable def steepleref01_Of.body : Code := Try.f28.body.getD .skip
def steepleref01_Of.calls (k : Nat) : List (Nat × Sig E.toTys) := [(75, steepleref01_bit.sig k)]
def steepleref01_Of.cuts : List (Cut E (RT E.toTys [(false, .bool)])) := [⟨true, 5, ⟨cat (ds 3) (cat [.one (.ptr 0 0)] (cat (ds 2) (cat [.one (.val (.int .i64))] (ds 19)))), [.var [.val (.int .u64), .val (.int .u64)]], false⟩, fun k x => steepleref01_Of.l5 k x.1.1 x.2.1.1 x.2.1.2.1⟩]
theorem steepleref01_Of.ok (k : Nat) : Okf (XR E) Try.prog 28 (steepleref01_Of.sig k) := ⟨fn_ok (C := fun k => tab.ctx fun f => lk f (steepleref01_Of.calls k)) (fun k => tie _) k (fun j hj => calls_ok (kc (steepleref01_bit.ok j) (kn))) 400 Try.func28 (body := steepleref01_Of.body) (res := [.tmp 4]) rfl (by kernel_rfl) steepleref01_Of.cuts (kc ⟨by kernel_rfl, rfl, fun _ => rfl, fun _ _ => by kernel_rfl⟩ (kn)) (fun x => by kernel_rfl), _, Try.func28, by kernel_rfl, by kernel_rfl⟩
/-! ### steeple/steepleref06.All: function 27 -/
def steepleref06_All.l2 : Nat → Int → List S40 → Int → Option Bool
  | 0, _, _, _ => none
  | k + 1, x0, x1, x2 => if x2 < (x1.length : Int) then (if 0 ≤ x2 then (if x2 < (x1.length : Int) then ((steepleref01_Of.f k x0 (rd40 x1 x2)).bind fun r0 => if (!r0) = true then some false else steepleref06_All.l2 k x0 x1 (wrap64 (x2 + 1))) else none) else none) else some true
def steepleref06_All.f (k : Nat) (a0 : Int) (a1 : List S40) : Option Bool := steepleref06_All.l2 k a0 a1 0
def steepleref06_All.sig (k : Nat) : Sig E.toTys := ⟨[.int .i64, .slice (.st 3)], [(false, .bool)], none, fun x => f k x.1 x.2.1⟩
noncomputable def steepleref06_All.body : Code := Try.f27.body.getD .skip
def steepleref06_All.calls (k : Nat) : List (Nat × Sig E.toTys) := [(28, steepleref01_Of.sig k)]
def steepleref06_All.cuts : List (Cut E (RT E.toTys [(false, .bool)])) := [⟨true, 2, ⟨cat [.one (.val (.int .i64)), .one (.val (.slice (.st 3)))] (cat (ds 3) (cat [.one (.val (.int .i64))] (ds 13))), [], false⟩, fun k x => steepleref06_All.l2 k x.1.1 x.1.2.1 x.1.2.2.1⟩]
theorem steepleref06_All.ok (k : Nat) : Okf (XR E) Try.prog 27 (steepleref06_All.sig k) := ⟨fn_ok (C := fun k => tab.ctx fun f => lk f (steepleref06_All.calls k)) (fun k => tie _) k (fun j hj => calls_ok (kc (steepleref01_Of.ok j) (kn))) 400 Try.func27 (body := steepleref06_All.body) (res := [.tmp 4]) rfl (by kernel_rfl) steepleref06_All.cuts (kc ⟨by kernel_rfl, rfl, fun _ => rfl, fun _ _ => by kernel_rfl⟩ (kn)) (fun x => by kernel_rfl), _, Try.func27, by kernel_rfl, by kernel_rfl⟩
/-! ### steeple/steepleref18.May: function 17 -/
def steepleref18_May.f (k : Nat) (a0 : Int) (a1 : Int) (a2 : Int) (a3 : Int) (a4 : List S40) : Option Int := if a0 < 0 then some 1 else if a0 > 7 then some 1 else (steepleref18_Fits.f k a1 a2 a3).bind fun r0 => if (!r0) = true then some 1 else if (a4.length : Int) = a2 then ((steepleref06_All.f k a0 a4).bind fun r1 => if (!r1) = true then some 5 else some 0) else some 6
def steepleref18_May.sig (k : Nat) : Sig E.toTys := ⟨[.int .i64, .int .i64, .int .i64, .int .i64, .slice (.st 3)], [(false, .int .i64)], none, fun x => f k x.1 x.2.1 x.2.2.1 x.2.2.2.1 x.2.2.2.2.1⟩
noncomputable def steepleref18_May.body : Code := Try.f17.body.getD .skip
def steepleref18_May.calls (k : Nat) : List (Nat × Sig E.toTys) := [(65, steepleref18_Fits.sig k), (27, steepleref06_All.sig k)]
def steepleref18_May.cuts : List (Cut E (RT E.toTys [(false, .int .i64)])) := []
theorem steepleref18_May.ok (k : Nat) : Okf (XR E) Try.prog 17 (steepleref18_May.sig k) := ⟨fn_ok (C := fun k => tab.ctx fun f => lk f (steepleref18_May.calls k)) (fun k => tie _) k (fun j hj => calls_ok (kc (steepleref18_Fits.ok j) (kc (steepleref06_All.ok j) (kn)))) 400 Try.func17 (body := steepleref18_May.body) (res := [.tmp 10]) rfl (by kernel_rfl) steepleref18_May.cuts (kn) (fun x => by kernel_rfl), _, Try.func17, by kernel_rfl, by kernel_rfl⟩
/-! ### steeple/steepleref18.Was: function 66 -/
def steepleref18_Was.f (k : Nat) (a0 : Int) (a1 : Int) (a2 : Int) (a3 : Int) (a4 : Int) : Option Bool := (steepleref15_Two.f k a1).bind fun r0 => if a0 = 2 then some (decide (a4 = wrap64 (a3 + a2))) else if a0 = 3 then (if r0 = 0 then none else some (decide (Int.tmod (wrap64 (a4 + a2)) r0 = a3))) else some (decide (a3 = wrap64 (a4 + a2)))
def steepleref18_Was.sig (k : Nat) : Sig E.toTys := ⟨[.int .i64, .int .i64, .int .i64, .int .i64, .int .i64], [(false, .bool)], none, fun x => f k x.1 x.2.1 x.2.2.1 x.2.2.2.1 x.2.2.2.2.1⟩
noncomputable def steepleref18_Was.body : Code := Try.f66.body.getD .skip
def steepleref18_Was.calls (k : Nat) : List (Nat × Sig E.toTys) := [(29, steepleref15_Two.sig k)]
def steepleref18_Was.cuts : List (Cut E (RT E.toTys [(false, .bool)])) := []
theorem steepleref18_Was.ok (k : Nat) : Okf (XR E) Try.prog 66 (steepleref18_Was.sig k) := ⟨fn_ok (C := fun k => tab.ctx fun f => lk f (steepleref18_Was.calls k)) (fun k => tie _) k (fun j hj => calls_ok (kc (steepleref15_Two.ok j) (kn))) 400 Try.func66 (body := steepleref18_Was.body) (res := [.tmp 10]) rfl (by kernel_rfl) steepleref18_Was.cuts (kn) (fun x => by kernel_rfl), _, Try.func66, by kernel_rfl, by kernel_rfl⟩
/-! ### steeple/steepleref15.one: function 95 -/
def steepleref15_one.f (k : Nat) : Option S40 := some (⟨0, 1⟩ : S40)
def steepleref15_one.sig (k : Nat) : Sig E.toTys := ⟨[], [(false, .st 3)], none, fun x => f k⟩
noncomputable def steepleref15_one.body : Code := Try.f95.body.getD .skip
def steepleref15_one.calls (k : Nat) : List (Nat × Sig E.toTys) := []
def steepleref15_one.cuts : List (Cut E (RT E.toTys [(false, .st 3)])) := []
theorem steepleref15_one.ok (k : Nat) : Okf (XR E) Try.prog 95 (steepleref15_one.sig k) := ⟨fn_ok (C := fun k => tab.ctx fun f => lk f (steepleref15_one.calls k)) (fun k => tie _) k (fun j hj => calls_ok (kn)) 400 Try.func95 (body := steepleref15_one.body) (res := [.cell 0 40]) rfl (by kernel_rfl) steepleref15_one.cuts (kn) (fun x => by kernel_rfl), _, Try.func95, by kernel_rfl, by kernel_rfl⟩
/-! ### steeple/steepleref02.Bit: function 84 -/
def steepleref02_Bit.f (k : Nat) (a0 : Int) : Option S40 := if a0 < 0 then some (⟨0, 0⟩ : S40) else if a0 > 127 then some (⟨0, 0⟩ : S40) else if a0 > 63 then (if 0 ≤ IntKind.u64.wrap (wrap64 (a0 - 64)) then some (⟨shl .u64 1 (IntKind.u64.wrap (wrap64 (a0 - 64))), 0⟩ : S40) else none) else if 0 ≤ IntKind.u64.wrap a0 then some (⟨0, shl .u64 1 (IntKind.u64.wrap a0)⟩ : S40) else none
def steepleref02_Bit.sig (k : Nat) : Sig E.toTys := ⟨[.int .i64], [(false, .st 3)], none, fun x => f k x.1⟩
noncomputable def steepleref02_Bit.body : Code := Try.f84.body.getD .skip
def steepleref02_Bit.calls (k : Nat) : List (Nat × Sig E.toTys) := []
def steepleref02_Bit.cuts : List (Cut E (RT E.toTys [(false, .st 3)])) := []
theorem steepleref02_Bit.ok (k : Nat) : Okf (XR E) Try.prog 84 (steepleref02_Bit.sig k) := ⟨fn_ok (C := fun k => tab.ctx fun f => lk f (steepleref02_Bit.calls k)) (fun k => tie _) k (fun j hj => calls_ok (kn)) 400 Try.func84 (body := steepleref02_Bit.body) (res := [.cell 2 40]) rfl (by kernel_rfl) steepleref02_Bit.cuts (kn) (fun x => by kernel_rfl), _, Try.func84, by kernel_rfl, by kernel_rfl⟩
/-! ### steeple/steepleref02.Has: function 89 -/
def steepleref02_Has.f (k : Nat) (a0 : S40) (a1 : Int) : Option Bool := (steepleref02_Bit.f k a1).bind fun r0 => some (!decide (bits .or .u64 (bits .and .u64 a0.f1 r0.f1) (bits .and .u64 a0.f0 r0.f0) = 0))
def steepleref02_Has.sig (k : Nat) : Sig E.toTys := ⟨[.st 3, .int .i64], [(false, .bool)], none, fun x => f k x.1 x.2.1⟩
noncomputable def steepleref02_Has.body : Code := Try.f89.body.getD .skip
def steepleref02_Has.calls (k : Nat) : List (Nat × Sig E.toTys) := [(84, steepleref02_Bit.sig k)]
def steepleref02_Has.cuts : List (Cut E (RT E.toTys [(false, .bool)])) := []
theorem steepleref02_Has.ok (k : Nat) : Okf (XR E) Try.prog 89 (steepleref02_Has.sig k) := ⟨fn_ok (C := fun k => tab.ctx fun f => lk f (steepleref02_Has.calls k)) (fun k => tie _) k (fun j hj => calls_ok (kc (steepleref02_Bit.ok j) (kn))) 400 Try.func89 (body := steepleref02_Has.body) (res := [.tmp 4]) rfl (by kernel_rfl) steepleref02_Has.cuts (kn) (fun x => by kernel_rfl), _, Try.func89, by kernel_rfl, by kernel_rfl⟩
end Go.Proofs.Ytnjaocdgjaaffaa.B
namespace Go.Proofs.Ytnjaocdgjaaffaa.B
open Go.Proofs.Ytnjaocdgjaaffaa.V.B Go.RowKit
set_option linter.unusedVariables false
/-! ### steeple/steepleref02.mask: function 130 -/
def steepleref02_mask.f (k : Nat) (a0 : Int) : Option Int := if 0 ≤ a0 then (if a0 < ([6148914691236517205, 3689348814741910323, 1085102592571150095, 71777214294589695, 281470681808895, 4294967295].length : Int) then some (rdI [6148914691236517205, 3689348814741910323, 1085102592571150095, 71777214294589695, 281470681808895, 4294967295] a0) else none) else none
def steepleref02_mask.sig (k : Nat) : Sig E.toTys := ⟨[.int .i64], [(false, .int .u64)], none, fun x => f k x.1⟩
noncomputable def steepleref02_mask.body : Code := Try.f130.body.getD .skip
def steepleref02_mask.calls (k : Nat) : List (Nat × Sig E.toTys) := []
def steepleref02_mask.cuts : List (Cut E (RT E.toTys [(false, .int .u64)])) := []
theorem steepleref02_mask.ok (k : Nat) : Okf (XR E) Try.prog 130 (steepleref02_mask.sig k) := ⟨fn_ok (C := fun k => tab.ctx fun f => lk f (steepleref02_mask.calls k)) (fun k => tie _) k (fun j hj => calls_ok (kn)) 400 Try.func130 (body := steepleref02_mask.body) (res := [.tmp 2]) rfl (by kernel_rfl) steepleref02_mask.cuts (kn) (fun x => by kernel_rfl), _, Try.func130, by kernel_rfl, by kernel_rfl⟩
/-! ### steeple/steepleref02.timesWord: function 117 -/
def steepleref02_timesWord.f : Nat → Int → Int → Option Int
  | 0, _, _ => none
  | k + 1, a0, a1 => if a0 < 0 then some a1 else if 0 ≤ IntKind.u64.wrap a0 then (if 0 ≤ shl .u64 1 (IntKind.u64.wrap a0) then ((steepleref02_mask.f k a0).bind fun r0 => (steepleref02_mask.f k a0).bind fun r1 => (steepleref02_timesWord.f k (wrap64 (a0 - 1)) (bits .and .u64 (shr .u64 a1 (shl .u64 1 (IntKind.u64.wrap a0))) r0)).bind fun r2 => if 0 ≤ shl .u64 1 (IntKind.u64.wrap a0) then some (bits .or .u64 (shl .u64 (bits .xor .u64 (bits .and .u64 a1 r1) r2) (shl .u64 1 (IntKind.u64.wrap a0))) (bits .and .u64 (shr .u64 a1 (shl .u64 1 (IntKind.u64.wrap a0))) r0)) else none) else none) else none
def steepleref02_timesWord.sig (k : Nat) : Sig E.toTys := ⟨[.int .i64, .int .u64], [(false, .int .u64)], none, fun x => f k x.1 x.2.1⟩
noncomputable def steepleref02_timesWord.body : Code := Try.f117.body.getD .skip
def steepleref02_timesWord.calls (k : Nat) : List (Nat × Sig E.toTys) := [(130, steepleref02_mask.sig k), (117, steepleref02_timesWord.sig k)]
def steepleref02_timesWord.cuts : List (Cut E (RT E.toTys [(false, .int .u64)])) := []
theorem steepleref02_timesWord.oks (k : Nat) : Okf (XR E) Try.prog 117 (steepleref02_timesWord.sig k) := by
  induction k using Nat.strongRecOn with
  | ind k ih =>
  cases k with
  | zero => exact ⟨ok0 fun _ => rfl, _, Try.func117, by kernel_rfl, by kernel_rfl⟩
  | succ k => exact ⟨fn_ok (C := fun k => tab.ctx fun f => lk f (steepleref02_timesWord.calls k)) (fun k => tie _) k (fun j hj => calls_ok (kc (steepleref02_mask.ok j) (kc (ih j (Nat.lt_succ_of_le hj)) (kn)))) 400 Try.func117 (body := steepleref02_timesWord.body) (res := [.tmp 4]) rfl (by kernel_rfl) steepleref02_timesWord.cuts (kn) (fun x => by kernel_rfl), _, Try.func117, by kernel_rfl, by kernel_rfl⟩
theorem steepleref02_timesWord.ok (k : Nat) : Okf (XR E) Try.prog 117 (steepleref02_timesWord.sig k) := (steepleref02_timesWord.oks k)
/-! ### steeple/steepleref02.Times: function 96 -/
def steepleref02_Times.f (k : Nat) (a0 : Int) (a1 : S40) : Option S40 := if a0 < 6 then ((steepleref02_timesWord.f k a0 a1.f0).bind fun r0 => (steepleref02_timesWord.f k a0 a1.f1).bind fun r1 => some (⟨r0, r1⟩ : S40)) else (steepleref02_timesWord.f k 5 a1.f0).bind fun r2 => some (⟨bits .xor .u64 a1.f1 r2, a1.f0⟩ : S40)
def steepleref02_Times.sig (k : Nat) : Sig E.toTys := ⟨[.int .i64, .st 3], [(false, .st 3)], none, fun x => f k x.1 x.2.1⟩
noncomputable def steepleref02_Times.body : Code := Try.f96.body.getD .skip
def steepleref02_Times.calls (k : Nat) : List (Nat × Sig E.toTys) := [(117, steepleref02_timesWord.sig k)]
def steepleref02_Times.cuts : List (Cut E (RT E.toTys [(false, .st 3)])) := []
theorem steepleref02_Times.ok (k : Nat) : Okf (XR E) Try.prog 96 (steepleref02_Times.sig k) := ⟨fn_ok (C := fun k => tab.ctx fun f => lk f (steepleref02_Times.calls k)) (fun k => tie _) k (fun j hj => calls_ok (kc (steepleref02_timesWord.ok j) (kn))) 400 Try.func96 (body := steepleref02_Times.body) (res := [.cell 4 40]) rfl (by kernel_rfl) steepleref02_Times.cuts (kn) (fun x => by kernel_rfl), _, Try.func96, by kernel_rfl, by kernel_rfl⟩
/-! ### steeple/steepleref02.Add: function 67 -/
def steepleref02_Add.f (k : Nat) (a0 : S40) (a1 : S40) : Option S40 := some (⟨bits .xor .u64 a0.f0 a1.f0, bits .xor .u64 a0.f1 a1.f1⟩ : S40)
def steepleref02_Add.sig (k : Nat) : Sig E.toTys := ⟨[.st 3, .st 3], [(false, .st 3)], none, fun x => f k x.1 x.2.1⟩
noncomputable def steepleref02_Add.body : Code := Try.f67.body.getD .skip
def steepleref02_Add.calls (k : Nat) : List (Nat × Sig E.toTys) := []
def steepleref02_Add.cuts : List (Cut E (RT E.toTys [(false, .st 3)])) := []
theorem steepleref02_Add.ok (k : Nat) : Okf (XR E) Try.prog 67 (steepleref02_Add.sig k) := ⟨fn_ok (C := fun k => tab.ctx fun f => lk f (steepleref02_Add.calls k)) (fun k => tie _) k (fun j hj => calls_ok (kn)) 400 Try.func67 (body := steepleref02_Add.body) (res := [.cell 4 40]) rfl (by kernel_rfl) steepleref02_Add.cuts (kn) (fun x => by kernel_rfl), _, Try.func67, by kernel_rfl, by kernel_rfl⟩
/-! ### steeple/steepleref02.Product: function 69 -/
mutual
def steepleref02_Product.l3 : Nat → Int → Int → Int → Int → Int → Int → Int → Int → Int → Option S40
  | 0, _, _, _, _, _, _, _, _, _ => none
  | k + 1, x0, x1, x2, x3, x4, x5, x6, x7, x8 => if x0 < 128 then ((steepleref02_Has.f k (⟨x3, x4⟩ : S40) x0).bind fun r0 => if (!r0) = true then steepleref02_Product.l3 k (wrap64 (x0 + 1)) x1 x2 x3 x4 x5 x6 x7 x8 else steepleref02_Product.l8 k x0 0 x1 x2 x3 x4 x5 x6 x7 x8 x1 x2) else some (⟨x7, x8⟩ : S40)
def steepleref02_Product.l8 : Nat → Int → Int → Int → Int → Int → Int → Int → Int → Int → Int → Int → Int → Option S40
  | 0, _, _, _, _, _, _, _, _, _, _, _, _ => none
  | k + 1, x0, x1, x2, x3, x4, x5, x6, x7, x8, x9, x10, x11 => if x1 < 7 then (if 0 ≤ IntKind.u64.wrap x1 then (if bits .and .i64 (shr .i64 x0 (IntKind.u64.wrap x1)) 1 = 1 then ((steepleref02_Times.f k x1 (⟨x10, x11⟩ : S40)).bind fun r1 => steepleref02_Product.l8 k x0 (wrap64 (x1 + 1)) x2 x3 x4 x5 x6 x7 x8 x9 r1.f0 r1.f1) else steepleref02_Product.l8 k x0 (wrap64 (x1 + 1)) x2 x3 x4 x5 x6 x7 x8 x9 x10 x11) else none) else (steepleref02_Add.f k (⟨x8, x9⟩ : S40) (⟨x10, x11⟩ : S40)).bind fun r2 => steepleref02_Product.l3 k (wrap64 (x0 + 1)) x2 x3 x4 x5 x6 x7 r2.f0 r2.f1
end
def steepleref02_Product.f (k : Nat) (a0 : S40) (a1 : S40) : Option S40 := steepleref02_Product.l3 k 0 a0.f0 a0.f1 a1.f0 a1.f1 0 0 0 0
def steepleref02_Product.sig (k : Nat) : Sig E.toTys := ⟨[.st 3, .st 3], [(false, .st 3)], none, fun x => f k x.1 x.2.1⟩
noncomputable def steepleref02_Product.body : Code := Try.f69.body.getD .skip
def steepleref02_Product.calls (k : Nat) : List (Nat × Sig E.toTys) := [(89, steepleref02_Has.sig k), (96, steepleref02_Times.sig k), (67, steepleref02_Add.sig k)]
def steepleref02_Product.cuts : List (Cut E (RT E.toTys [(false, .st 3)])) := [⟨true, 3, ⟨cat (ds 2) (cat [.one (.ptr 0 0), .one (.ptr 1 0), .one (.ptr 2 0), .one (.ptr 3 0), .one (.val (.int .i64))] (ds 28)), [.var [.val (.int .u64), .val (.int .u64)], .var [.val (.int .u64), .val (.int .u64)], .var [.val (.int .u64), .val (.int .u64)], .var [.val (.int .u64), .val (.int .u64)]], false⟩, fun k x => steepleref02_Product.l3 k x.1.1 x.2.1.1 x.2.1.2.1 x.2.2.1.1 x.2.2.1.2.1 x.2.2.2.1.1 x.2.2.2.1.2.1 x.2.2.2.2.1.1 x.2.2.2.2.1.2.1⟩,
  ⟨true, 8, ⟨cat (ds 2) (cat [.one (.ptr 0 0), .one (.ptr 1 0), .one (.ptr 2 0), .one (.ptr 3 0), .one (.val (.int .i64)), .one (.ptr 4 0), .one (.val (.int .i64))] (ds 26)), [.var [.val (.int .u64), .val (.int .u64)], .var [.val (.int .u64), .val (.int .u64)], .var [.val (.int .u64), .val (.int .u64)], .var [.val (.int .u64), .val (.int .u64)], .var [.val (.int .u64), .val (.int .u64)]], false⟩, fun k x => steepleref02_Product.l8 k x.1.1 x.1.2.1 x.2.1.1 x.2.1.2.1 x.2.2.1.1 x.2.2.1.2.1 x.2.2.2.1.1 x.2.2.2.1.2.1 x.2.2.2.2.1.1 x.2.2.2.2.1.2.1 x.2.2.2.2.2.1.1 x.2.2.2.2.2.1.2.1⟩]
theorem steepleref02_Product.ok (k : Nat) : Okf (XR E) Try.prog 69 (steepleref02_Product.sig k) := ⟨fn_ok (C := fun k => tab.ctx fun f => lk f (steepleref02_Product.calls k)) (fun k => tie _) k (fun j hj => calls_ok (kc (steepleref02_Has.ok j) (kc (steepleref02_Times.ok j) (kc (steepleref02_Add.ok j) (kn))))) 400 Try.func69 (body := steepleref02_Product.body) (res := [.cell 4 40]) rfl (by kernel_rfl) steepleref02_Product.cuts (kc ⟨by kernel_rfl, rfl, fun _ => rfl, fun _ _ => by kernel_rfl⟩ (kc ⟨by kernel_rfl, rfl, fun _ => rfl, fun _ _ => by kernel_rfl⟩ (kn))) (fun x => by kernel_rfl), _, Try.func69, by kernel_rfl, by kernel_rfl⟩
/-! ### steeple/steepleref15.Weight: function 68 -/
def steepleref15_Weight.l4 : Nat → List S40 → Int → Int → Int → Int → Int → Int → Option S40
  | 0, _, _, _, _, _, _, _ => none
  | k + 1, x0, x1, x2, x3, x4, x5, x6 => if x2 < (x0.length : Int) then (if Int.tmod x1 2 = 1 then (if 0 ≤ x2 then (if x2 < (x0.length : Int) then ((steepleref02_Product.f k (⟨x5, x6⟩ : S40) (rd40 x0 x2)).bind fun r1 => steepleref15_Weight.l4 k x0 (wrap64 (Int.tdiv x1 2)) (wrap64 (x2 + 1)) x3 x4 r1.f0 r1.f1) else none) else none) else (steepleref15_one.f k).bind fun r2 => if 0 ≤ x2 then (if x2 < (x0.length : Int) then ((steepleref02_Add.f k r2 (rd40 x0 x2)).bind fun r3 => (steepleref02_Product.f k (⟨x5, x6⟩ : S40) r3).bind fun r4 => steepleref15_Weight.l4 k x0 (wrap64 (Int.tdiv x1 2)) (wrap64 (x2 + 1)) x3 x4 r4.f0 r4.f1) else none) else none) else some (⟨x5, x6⟩ : S40)
def steepleref15_Weight.f (k : Nat) (a0 : List S40) (a1 : Int) : Option S40 := (steepleref15_one.f k).bind fun r0 => steepleref15_Weight.l4 k a0 a1 0 0 0 r0.f0 r0.f1
def steepleref15_Weight.sig (k : Nat) : Sig E.toTys := ⟨[.slice (.st 3), .int .i64], [(false, .st 3)], none, fun x => f k x.1 x.2.1⟩
noncomputable def steepleref15_Weight.body : Code := Try.f68.body.getD .skip
def steepleref15_Weight.calls (k : Nat) : List (Nat × Sig E.toTys) := [(95, steepleref15_one.sig k), (69, steepleref02_Product.sig k), (67, steepleref02_Add.sig k)]
def steepleref15_Weight.cuts : List (Cut E (RT E.toTys [(false, .st 3)])) := [⟨true, 4, ⟨cat [.one (.val (.slice (.st 3)))] (cat (ds 3) (cat [.one (.ptr 0 0), .one (.ptr 1 0), .one (.val (.int .i64)), .one (.val (.int .i64))] (ds 28))), [.var [.val (.int .u64), .val (.int .u64)], .var [.val (.int .u64), .val (.int .u64)]], false⟩, fun k x => steepleref15_Weight.l4 k x.1.1 x.1.2.1 x.1.2.2.1 x.2.1.1 x.2.1.2.1 x.2.2.1.1 x.2.2.1.2.1⟩]
theorem steepleref15_Weight.ok (k : Nat) : Okf (XR E) Try.prog 68 (steepleref15_Weight.sig k) := ⟨fn_ok (C := fun k => tab.ctx fun f => lk f (steepleref15_Weight.calls k)) (fun k => tie _) k (fun j hj => calls_ok (kc (steepleref15_one.ok j) (kc (steepleref02_Product.ok j) (kc (steepleref02_Add.ok j) (kn))))) 400 Try.func68 (body := steepleref15_Weight.body) (res := [.cell 4 40]) rfl (by kernel_rfl) steepleref15_Weight.cuts (kc ⟨by kernel_rfl, rfl, fun _ => rfl, fun _ _ => by kernel_rfl⟩ (kn)) (fun x => by kernel_rfl), _, Try.func68, by kernel_rfl, by kernel_rfl⟩
/-! ### steeple/steepleref18.Sign: function 19 -/
mutual
def steepleref18_Sign.l3 : Nat → Int → Int → Int → List S40 → List S40 → Int → Int → Int → Int → Int → Option S40
  | 0, _, _, _, _, _, _, _, _, _, _ => none
  | k + 1, x0, x1, x2, x3, x4, x5, x6, x7, x8, x9 => (steepleref15_Two.f k x1).bind fun r0 => if x5 < r0 then steepleref18_Sign.l6 k x0 x1 x2 x3 x4 x5 0 x6 x7 x8 x9 else some (⟨x8, x9⟩ : S40)
def steepleref18_Sign.l6 : Nat → Int → Int → Int → List S40 → List S40 → Int → Int → Int → Int → Int → Int → Option S40
  | 0, _, _, _, _, _, _, _, _, _, _, _ => none
  | k + 1, x0, x1, x2, x3, x4, x5, x6, x7, x8, x9, x10 => (steepleref15_Two.f k x1).bind fun r1 => if x6 < r1 then ((steepleref18_Was.f k x0 x1 x2 x5 x6).bind fun r2 => if r2 = true then ((steepleref15_Weight.f k x3 x5).bind fun r3 => (steepleref15_Weight.f k x4 x6).bind fun r4 => (steepleref02_Product.f k r3 r4).bind fun r5 => (steepleref02_Add.f k (⟨x9, x10⟩ : S40) r5).bind fun r6 => steepleref18_Sign.l6 k x0 x1 x2 x3 x4 x5 (wrap64 (x6 + 1)) x7 x8 r6.f0 r6.f1) else steepleref18_Sign.l6 k x0 x1 x2 x3 x4 x5 (wrap64 (x6 + 1)) x7 x8 x9 x10) else steepleref18_Sign.l3 k x0 x1 x2 x3 x4 (wrap64 (x5 + 1)) x7 x8 x9 x10
end
def steepleref18_Sign.f (k : Nat) (a0 : Int) (a1 : Int) (a2 : Int) (a3 : List S40) (a4 : List S40) : Option S40 := steepleref18_Sign.l3 k a0 a1 a2 a3 a4 0 0 0 0 0
def steepleref18_Sign.sig (k : Nat) : Sig E.toTys := ⟨[.int .i64, .int .i64, .int .i64, .slice (.st 3), .slice (.st 3)], [(false, .st 3)], none, fun x => f k x.1 x.2.1 x.2.2.1 x.2.2.2.1 x.2.2.2.2.1⟩
noncomputable def steepleref18_Sign.body : Code := Try.f19.body.getD .skip
def steepleref18_Sign.calls (k : Nat) : List (Nat × Sig E.toTys) := [(29, steepleref15_Two.sig k), (66, steepleref18_Was.sig k), (68, steepleref15_Weight.sig k), (69, steepleref02_Product.sig k), (67, steepleref02_Add.sig k)]
def steepleref18_Sign.cuts : List (Cut E (RT E.toTys [(false, .st 3)])) := [⟨true, 3, ⟨cat [.one (.val (.int .i64)), .one (.val (.int .i64)), .one (.val (.int .i64)), .one (.val (.slice (.st 3))), .one (.val (.slice (.st 3)))] (cat (ds 5) (cat [.one (.ptr 0 0), .one (.ptr 1 0), .one (.val (.int .i64))] (ds 29))), [.var [.val (.int .u64), .val (.int .u64)], .var [.val (.int .u64), .val (.int .u64)]], false⟩, fun k x => steepleref18_Sign.l3 k x.1.1 x.1.2.1 x.1.2.2.1 x.1.2.2.2.1 x.1.2.2.2.2.1 x.1.2.2.2.2.2.1 x.2.1.1 x.2.1.2.1 x.2.2.1.1 x.2.2.1.2.1⟩,
  ⟨true, 6, ⟨cat [.one (.val (.int .i64)), .one (.val (.int .i64)), .one (.val (.int .i64)), .one (.val (.slice (.st 3))), .one (.val (.slice (.st 3)))] (cat (ds 5) (cat [.one (.ptr 0 0), .one (.ptr 1 0), .one (.val (.int .i64)), .one (.val (.int .i64))] (ds 28))), [.var [.val (.int .u64), .val (.int .u64)], .var [.val (.int .u64), .val (.int .u64)]], false⟩, fun k x => steepleref18_Sign.l6 k x.1.1 x.1.2.1 x.1.2.2.1 x.1.2.2.2.1 x.1.2.2.2.2.1 x.1.2.2.2.2.2.1 x.1.2.2.2.2.2.2.1 x.2.1.1 x.2.1.2.1 x.2.2.1.1 x.2.2.1.2.1⟩]
theorem steepleref18_Sign.ok (k : Nat) : Okf (XR E) Try.prog 19 (steepleref18_Sign.sig k) := ⟨fn_ok (C := fun k => tab.ctx fun f => lk f (steepleref18_Sign.calls k)) (fun k => tie _) k (fun j hj => calls_ok (kc (steepleref15_Two.ok j) (kc (steepleref18_Was.ok j) (kc (steepleref15_Weight.ok j) (kc (steepleref02_Product.ok j) (kc (steepleref02_Add.ok j) (kn))))))) 400 Try.func19 (body := steepleref18_Sign.body) (res := [.cell 10 40]) rfl (by kernel_rfl) steepleref18_Sign.cuts (kc ⟨by kernel_rfl, rfl, fun _ => rfl, fun _ _ => by kernel_rfl⟩ (kc ⟨by kernel_rfl, rfl, fun _ => rfl, fun _ _ => by kernel_rfl⟩ (kn))) (fun x => by kernel_rfl), _, Try.func19, by kernel_rfl, by kernel_rfl⟩
/-! ### steeple/steepleref18.SignAt: function 18 -/
def steepleref18_SignAt.l3 : Nat → Int → Int → Int → List S40 → Int → Int → Int → Int → Int → Int → Option S40
  | 0, _, _, _, _, _, _, _, _, _, _ => none
  | k + 1, x0, x1, x2, x3, x4, x5, x6, x7, x8, x9 => (steepleref15_Two.f k x1).bind fun r0 => if x5 < r0 then ((steepleref18_Was.f k x0 x1 x2 x5 x4).bind fun r1 => if r1 = true then ((steepleref15_Weight.f k x3 x5).bind fun r2 => (steepleref02_Add.f k (⟨x8, x9⟩ : S40) r2).bind fun r3 => steepleref18_SignAt.l3 k x0 x1 x2 x3 x4 (wrap64 (x5 + 1)) x6 x7 r3.f0 r3.f1) else steepleref18_SignAt.l3 k x0 x1 x2 x3 x4 (wrap64 (x5 + 1)) x6 x7 x8 x9) else some (⟨x8, x9⟩ : S40)
def steepleref18_SignAt.f (k : Nat) (a0 : Int) (a1 : Int) (a2 : Int) (a3 : List S40) (a4 : Int) : Option S40 := steepleref18_SignAt.l3 k a0 a1 a2 a3 a4 0 0 0 0 0
def steepleref18_SignAt.sig (k : Nat) : Sig E.toTys := ⟨[.int .i64, .int .i64, .int .i64, .slice (.st 3), .int .i64], [(false, .st 3)], none, fun x => f k x.1 x.2.1 x.2.2.1 x.2.2.2.1 x.2.2.2.2.1⟩
noncomputable def steepleref18_SignAt.body : Code := Try.f18.body.getD .skip
def steepleref18_SignAt.calls (k : Nat) : List (Nat × Sig E.toTys) := [(29, steepleref15_Two.sig k), (66, steepleref18_Was.sig k), (68, steepleref15_Weight.sig k), (67, steepleref02_Add.sig k)]
def steepleref18_SignAt.cuts : List (Cut E (RT E.toTys [(false, .st 3)])) := [⟨true, 3, ⟨cat [.one (.val (.int .i64)), .one (.val (.int .i64)), .one (.val (.int .i64)), .one (.val (.slice (.st 3))), .one (.val (.int .i64))] (cat (ds 5) (cat [.one (.ptr 0 0), .one (.ptr 1 0), .one (.val (.int .i64))] (ds 18))), [.var [.val (.int .u64), .val (.int .u64)], .var [.val (.int .u64), .val (.int .u64)]], false⟩, fun k x => steepleref18_SignAt.l3 k x.1.1 x.1.2.1 x.1.2.2.1 x.1.2.2.2.1 x.1.2.2.2.2.1 x.1.2.2.2.2.2.1 x.2.1.1 x.2.1.2.1 x.2.2.1.1 x.2.2.1.2.1⟩]
theorem steepleref18_SignAt.ok (k : Nat) : Okf (XR E) Try.prog 18 (steepleref18_SignAt.sig k) := ⟨fn_ok (C := fun k => tab.ctx fun f => lk f (steepleref18_SignAt.calls k)) (fun k => tie _) k (fun j hj => calls_ok (kc (steepleref15_Two.ok j) (kc (steepleref18_Was.ok j) (kc (steepleref15_Weight.ok j) (kc (steepleref02_Add.ok j) (kn)))))) 400 Try.func18 (body := steepleref18_SignAt.body) (res := [.cell 10 40]) rfl (by kernel_rfl) steepleref18_SignAt.cuts (kc ⟨by kernel_rfl, rfl, fun _ => rfl, fun _ _ => by kernel_rfl⟩ (kn)) (fun x => by kernel_rfl), _, Try.func18, by kernel_rfl, by kernel_rfl⟩
/-! ### steeple/steeplelaw18.TurnSigns: function 3 -/
mutual
def steeplelaw18_TurnSigns.j2 : Nat → Option Bool
  | 0 => none
  | k + 1 => (steeplelaw18_awake.f k).bind fun r0 => some r0
def steeplelaw18_TurnSigns.j3 : Nat → Int → Int → Int → Int → List S30 → List S30 → Option Bool
  | 0, _, _, _, _, _, _ => none
  | k + 1, x0, x1, x2, x3, x4, x5 => (turn_At.f k x0 x1 x2 x3 x4 x5).bind fun r1 => (turn_Row.f k x0 x1 x2 x3 x4).bind fun r2 => (steeplelaw01_Ref.f k x4).bind fun r3 => (steeplelaw01_Ref.f k x5).bind fun r4 => (steepleref18_May.f k x0 x1 x2 x3 r3).bind fun r5 => (steepleref18_May.f k x0 x1 x2 x3 r4).bind fun r6 => if r5 = 0 then steeplelaw18_TurnSigns.j9 k r1.2 r2.2 r5 r6 x1 x2 x3 r1.1.f0 r1.1.f1 r2.1 r3 r4 else if r5 = 5 then (if r6 = 6 then steeplelaw18_TurnSigns.j9 k r1.2 r2.2 r5 r6 x1 x2 x3 r1.1.f0 r1.1.f1 r2.1 r3 r4 else steeplelaw18_TurnSigns.j10 k r1.2 r2.2 r5 r5 x1 x2 x3 r1.1.f0 r1.1.f1 r2.1 r3 r4) else steeplelaw18_TurnSigns.j10 k r1.2 r2.2 r5 r5 x1 x2 x3 r1.1.f0 r1.1.f1 r2.1 r3 r4
def steeplelaw18_TurnSigns.j9 : Nat → Int → Int → Int → Int → Int → Int → Int → Int → Int → List S30 → List S40 → List S40 → Option Bool
  | 0, _, _, _, _, _, _, _, _, _, _, _, _ => none
  | k + 1, x0, x1, x2, x3, x4, x5, x6, x7, x8, x9, x10, x11 => steeplelaw18_TurnSigns.j10 k x0 x1 x2 x3 x4 x5 x6 x7 x8 x9 x10 x11
def steeplelaw18_TurnSigns.j10 : Nat → Int → Int → Int → Int → Int → Int → Int → Int → Int → List S30 → List S40 → List S40 → Option Bool
  | 0, _, _, _, _, _, _, _, _, _, _, _, _ => none
  | k + 1, x0, x1, x2, x3, x4, x5, x6, x7, x8, x9, x10, x11 => if x0 = x3 then (if x1 = x2 then (if x1 = 0 then (if 0 ≤ x5 then (if x5 < ([1, 2, 4, 8, 16].length : Int) then (if (x9.length : Int) = rdI [1, 2, 4, 8, 16] x5 then steeplelaw18_TurnSigns.l16 k x0 0 x4 x5 x6 x7 x8 x9 x10 x11 else some false) else none) else none) else if (x9.length : Int) = 0 then (if x0 = 0 then ((steeplelaw18_awake.f k).bind fun r7 => if r7 = true then ((steepleref18_Sign.f k x4 x5 x6 x10 x11).bind fun r8 => some (decide (x7 = r8.f0 ∧ x8 = r8.f1))) else some false) else (steeplelaw18_awake.f k).bind fun r9 => if r9 = true then some (decide (x7 = 0 ∧ x8 = 0)) else some false) else some false) else steeplelaw18_TurnSigns.j11 k) else steeplelaw18_TurnSigns.j11 k
def steeplelaw18_TurnSigns.l16 : Nat → Int → Int → Int → Int → Int → Int → Int → List S30 → List S40 → List S40 → Option Bool
  | 0, _, _, _, _, _, _, _, _, _, _ => none
  | k + 1, x0, x1, x2, x3, x4, x5, x6, x7, x8, x9 => if x1 < (x7.length : Int) then (if 0 ≤ x1 then (if x1 < (x7.length : Int) then ((steepleref18_SignAt.f k x2 x3 x4 x8 x1).bind fun r10 => if (rd30 x7 x1).f0 = r10.f0 ∧ (rd30 x7 x1).f1 = r10.f1 then steeplelaw18_TurnSigns.l16 k x0 (wrap64 (x1 + 1)) x2 x3 x4 x5 x6 x7 x8 x9 else some false) else none) else none) else if x0 = 0 then ((steeplelaw18_awake.f k).bind fun r11 => if r11 = true then ((steepleref18_Sign.f k x2 x3 x4 x8 x9).bind fun r12 => some (decide (x5 = r12.f0 ∧ x6 = r12.f1))) else some false) else (steeplelaw18_awake.f k).bind fun r13 => if r13 = true then some (decide (x5 = 0 ∧ x6 = 0)) else some false
def steeplelaw18_TurnSigns.j11 : Nat → Option Bool
  | 0 => none
  | k + 1 => some false
end
def steeplelaw18_TurnSigns.f (k : Nat) (a0 : Int) (a1 : S23) (a2 : S26) : Option Bool := if a1.f1 > 4 then (if a1.f1 ≤ 6 then steeplelaw18_TurnSigns.j2 k else if (a2.f0.length : Int) > 6 then steeplelaw18_TurnSigns.j2 k else if (a2.f1.length : Int) > 6 then steeplelaw18_TurnSigns.j2 k else steeplelaw18_TurnSigns.j3 k a0 a1.f0 a1.f1 a1.f2 a2.f0 a2.f1) else if (a2.f0.length : Int) > 6 then steeplelaw18_TurnSigns.j2 k else if (a2.f1.length : Int) > 6 then steeplelaw18_TurnSigns.j2 k else steeplelaw18_TurnSigns.j3 k a0 a1.f0 a1.f1 a1.f2 a2.f0 a2.f1
def steeplelaw18_TurnSigns.sig (k : Nat) : Sig E.toTys := ⟨[.int .i64, .st 0, .st 2], [(false, .bool)], none, fun x => f k x.1 x.2.1 x.2.2.1⟩
noncomputable def steeplelaw18_TurnSigns.body : Code := Try.f3.body.getD .skip
def steeplelaw18_TurnSigns.calls (k : Nat) : List (Nat × Sig E.toTys) := [(13, steeplelaw18_awake.sig k), (14, turn_At.sig k), (15, turn_Row.sig k), (16, steeplelaw01_Ref.sig k), (17, steepleref18_May.sig k), (19, steepleref18_Sign.sig k), (18, steepleref18_SignAt.sig k)]
def steeplelaw18_TurnSigns.cuts : List (Cut E (RT E.toTys [(false, .bool)])) := [⟨false, 2, ⟨ds 165, [], false⟩, fun k x => steeplelaw18_TurnSigns.j2 k⟩,
  ⟨false, 3, ⟨cat [.one (.val (.int .i64))] (cat (ds 3) (cat [.one (.ptr 0 0), .one (.ptr 1 0)] (ds 159))), [.var [.val (.int .i64), .val (.int .i64), .val (.int .i64)], .var [.val (.slice (.st 1)), .val (.slice (.st 1))]], false⟩, fun k x => steeplelaw18_TurnSigns.j3 k x.1.1 x.2.1.1 x.2.1.2.1 x.2.1.2.2.1 x.2.2.1.1 x.2.2.1.2.1⟩,
  ⟨false, 9, ⟨cat (ds 4) (cat [.one (.ptr 0 0)] (cat (ds 2) (cat [.one (.ptr 1 0), .one (.val (.int .i64)), .one (.ref 2), .one (.val (.int .i64)), .one (.ref 3), .one (.ref 4), .one (.val (.int .i64)), .one (.val (.int .i64))] (ds 150)))), [.var [.val (.int .i64), .val (.int .i64), .val (.int .i64)], .var [.val (.int .u64), .val (.int .u64)], .arr (.st 1), .arr (.st 3), .arr (.st 3)], false⟩, fun k x => steeplelaw18_TurnSigns.j9 k x.1.1 x.1.2.1 x.1.2.2.1 x.1.2.2.2.1 x.2.1.1 x.2.1.2.1 x.2.1.2.2.1 x.2.2.1.1 x.2.2.1.2.1 x.2.2.2.1 x.2.2.2.2.1 x.2.2.2.2.2.1⟩,
  ⟨false, 10, ⟨cat (ds 4) (cat [.one (.ptr 0 0)] (cat (ds 2) (cat [.one (.ptr 1 0), .one (.val (.int .i64)), .one (.ref 2), .one (.val (.int .i64)), .one (.ref 3), .one (.ref 4), .one (.val (.int .i64))] (cat (ds 1) (cat [.one (.val (.int .i64))] (ds 149)))))), [.var [.val (.int .i64), .val (.int .i64), .val (.int .i64)], .var [.val (.int .u64), .val (.int .u64)], .arr (.st 1), .arr (.st 3), .arr (.st 3)], false⟩, fun k x => steeplelaw18_TurnSigns.j10 k x.1.1 x.1.2.1 x.1.2.2.1 x.1.2.2.2.1 x.2.1.1 x.2.1.2.1 x.2.1.2.2.1 x.2.2.1.1 x.2.2.1.2.1 x.2.2.2.1 x.2.2.2.2.1 x.2.2.2.2.2.1⟩,
  ⟨true, 16, ⟨cat (ds 4) (cat [.one (.ptr 0 0)] (cat (ds 2) (cat [.one (.ptr 1 0), .one (.val (.int .i64)), .one (.ref 2)] (cat (ds 1) (cat [.one (.ref 3), .one (.ref 4)] (cat (ds 3) (cat [.one (.val (.int .i64))] (ds 148)))))))), [.var [.val (.int .i64), .val (.int .i64), .val (.int .i64)], .var [.val (.int .u64), .val (.int .u64)], .arr (.st 1), .arr (.st 3), .arr (.st 3)], false⟩, fun k x => steeplelaw18_TurnSigns.l16 k x.1.1 x.1.2.1 x.2.1.1 x.2.1.2.1 x.2.1.2.2.1 x.2.2.1.1 x.2.2.1.2.1 x.2.2.2.1 x.2.2.2.2.1 x.2.2.2.2.2.1⟩,
  ⟨false, 11, ⟨ds 165, [], false⟩, fun k x => steeplelaw18_TurnSigns.j11 k⟩]
theorem steeplelaw18_TurnSigns.ok (k : Nat) : Okf (XR E) Try.prog 3 (steeplelaw18_TurnSigns.sig k) := ⟨fn_ok (C := fun k => tab.ctx fun f => lk f (steeplelaw18_TurnSigns.calls k)) (fun k => tie _) k (fun j hj => calls_ok (kc (steeplelaw18_awake.ok j) (kc (turn_At.ok j) (kc (turn_Row.ok j) (kc (steeplelaw01_Ref.ok j) (kc (steepleref18_May.ok j) (kc (steepleref18_Sign.ok j) (kc (steepleref18_SignAt.ok j) (kn))))))))) 400 Try.func3 (body := steeplelaw18_TurnSigns.body) (res := [.tmp 6]) rfl (by kernel_rfl) steeplelaw18_TurnSigns.cuts (kc ⟨by kernel_rfl, rfl, fun _ => rfl, fun _ _ => by kernel_rfl⟩ (kc ⟨by kernel_rfl, rfl, fun _ => rfl, fun _ _ => by kernel_rfl⟩ (kc ⟨by kernel_rfl, rfl, fun _ => rfl, fun _ _ => by kernel_rfl⟩ (kc ⟨by kernel_rfl, rfl, fun _ => rfl, fun _ _ => by kernel_rfl⟩ (kc ⟨by kernel_rfl, rfl, fun _ => rfl, fun _ _ => by kernel_rfl⟩ (kc ⟨by kernel_rfl, rfl, fun _ => rfl, fun _ _ => by kernel_rfl⟩ (kn))))))) (fun x => by kernel_rfl), _, Try.func3, by kernel_rfl, by kernel_rfl⟩
/-! ### steeple/steeplelaw22.Few: function 20 -/
def steeplelaw22_Few.f (k : Nat) (a0 : S46) : Option Bool := if (a0.f2.length : Int) ≤ 12 then (if a0.f0 ≤ 2 then (if a0.f1 ≤ 3 then some (decide ((a0.f3.length : Int) ≤ 8)) else if a0.f1 > 6 then some (decide ((a0.f3.length : Int) ≤ 8)) else some false) else if a0.f0 > 6 then (if a0.f1 ≤ 3 then some (decide ((a0.f3.length : Int) ≤ 8)) else if a0.f1 > 6 then some (decide ((a0.f3.length : Int) ≤ 8)) else some false) else some false) else if (a0.f2.length : Int) > 200 then (if (a0.f2.length : Int) ≤ 210 then (if a0.f0 ≤ 2 then (if a0.f1 ≤ 3 then some (decide ((a0.f3.length : Int) ≤ 8)) else if a0.f1 > 6 then some (decide ((a0.f3.length : Int) ≤ 8)) else some false) else if a0.f0 > 6 then (if a0.f1 ≤ 3 then some (decide ((a0.f3.length : Int) ≤ 8)) else if a0.f1 > 6 then some (decide ((a0.f3.length : Int) ≤ 8)) else some false) else some false) else some false) else some false
def steeplelaw22_Few.sig (k : Nat) : Sig E.toTys := ⟨[.st 5], [(false, .bool)], none, fun x => f k x.1⟩
noncomputable def steeplelaw22_Few.body : Code := Try.f20.body.getD .skip
def steeplelaw22_Few.calls (k : Nat) : List (Nat × Sig E.toTys) := []
def steeplelaw22_Few.cuts : List (Cut E (RT E.toTys [(false, .bool)])) := []
theorem steeplelaw22_Few.ok (k : Nat) : Okf (XR E) Try.prog 20 (steeplelaw22_Few.sig k) := ⟨fn_ok (C := fun k => tab.ctx fun f => lk f (steeplelaw22_Few.calls k)) (fun k => tie _) k (fun j hj => calls_ok (kn)) 400 Try.func20 (body := steeplelaw22_Few.body) (res := [.tmp 2]) rfl (by kernel_rfl) steeplelaw22_Few.cuts (kn) (fun x => by kernel_rfl), _, Try.func20, by kernel_rfl, by kernel_rfl⟩
/-! ### steeple/claim.Check: function 25 -/
mutual
def claim_Check.j2 : Nat → Option Int
  | 0 => none
  | k + 1 => some 1
def claim_Check.l6 : Nat → Int → Int → List S59 → Int → Int → Option Int
  | 0, _, _, _, _, _ => none
  | k + 1, x0, x1, x2, x3, x4 => if x4 < x3 then (if 0 ≤ x4 then (if x4 < (x2.length : Int) then (if (rd59 x2 x4).f0 < 0 then some 4 else if 0 ≤ x0 then (if (rd59 x2 x4).f0 ≥ shl .i64 1 x0 then some 4 else (turn_Fits.f k (rd59 x2 x4).f1 x1 (rd59 x2 x4).f2).bind fun r0 => if (!r0) = true then some 1 else claim_Check.l6 k x0 x1 x2 x3 (wrap64 (x4 + 1))) else none) else none) else none) else some 0
end
def claim_Check.f (k : Nat) (a0 : Int) (a1 : Int) (a2 : List S59) : Option Int := if a0 < 0 then claim_Check.j2 k else if a0 > 6 then claim_Check.j2 k else if a1 < 0 then claim_Check.j2 k else if a1 > 6 then claim_Check.j2 k else if (a2.length : Int) > 200 then some 2 else claim_Check.l6 k a0 a1 a2 (a2.length : Int) 0
def claim_Check.sig (k : Nat) : Sig E.toTys := ⟨[.int .i64, .int .i64, .slice (.st 4)], [(false, .int .i64)], none, fun x => f k x.1 x.2.1 x.2.2.1⟩
noncomputable def claim_Check.body : Code := Try.f25.body.getD .skip
def claim_Check.calls (k : Nat) : List (Nat × Sig E.toTys) := [(59, turn_Fits.sig k)]
def claim_Check.cuts : List (Cut E (RT E.toTys [(false, .int .i64)])) := [⟨false, 2, ⟨ds 54, [], false⟩, fun k x => claim_Check.j2 k⟩,
  ⟨true, 6, ⟨cat [.one (.val (.int .i64)), .one (.val (.int .i64))] (cat (ds 26) (cat [.one (.val (.slice (.st 4))), .one (.val (.int .i64)), .one (.val (.int .i64))] (ds 23))), [], false⟩, fun k x => claim_Check.l6 k x.1.1 x.1.2.1 x.1.2.2.1 x.1.2.2.2.1 x.1.2.2.2.2.1⟩]
theorem claim_Check.ok (k : Nat) : Okf (XR E) Try.prog 25 (claim_Check.sig k) := ⟨fn_ok (C := fun k => tab.ctx fun f => lk f (claim_Check.calls k)) (fun k => tie _) k (fun j hj => calls_ok (kc (turn_Fits.ok j) (kn))) 400 Try.func25 (body := claim_Check.body) (res := [.tmp 6]) rfl (by kernel_rfl) claim_Check.cuts (kc ⟨by kernel_rfl, rfl, fun _ => rfl, fun _ _ => by kernel_rfl⟩ (kc ⟨by kernel_rfl, rfl, fun _ => rfl, fun _ _ => by kernel_rfl⟩ (kn))) (fun x => by kernel_rfl), _, Try.func25, by kernel_rfl, by kernel_rfl⟩
/-! ### steeple/claim.of$1: function 101 -/
def claim_of_1.f (k : Nat) (a0 : S30) (a1 : Option Int) : Option Bool := (match a1 with | none => none | some r0 => (octet_Of.f k r0 a0).bind fun r1 => some (!r1))
def claim_of_1.sig (k : Nat) : Sig E.toTys := ⟨[.st 1, .ptr (.int .i64)], [(false, .bool)], none, fun x => f k x.1 x.2.1⟩
noncomputable def claim_of_1.body : Code := Try.f101.body.getD .skip
def claim_of_1.calls (k : Nat) : List (Nat × Sig E.toTys) := [(70, octet_Of.sig k)]
def claim_of_1.cuts : List (Cut E (RT E.toTys [(false, .bool)])) := []
theorem claim_of_1.ok (k : Nat) : Okf (XR E) Try.prog 101 (claim_of_1.sig k) := ⟨fn_ok (C := fun k => tab.ctx fun f => lk f (claim_of_1.calls k)) (fun k => tie _) k (fun j hj => calls_ok (kc (octet_Of.ok j) (kn))) 400 Try.func101 (body := claim_of_1.body) (res := [.tmp 3]) rfl (by kernel_rfl) claim_of_1.cuts (kn) (fun x => by kernel_rfl), _, Try.func101, by kernel_rfl, by kernel_rfl⟩
/-! ### slices.IndexFunc: function 115 -/
def slices_IndexFunc115_c101.l2 : Nat → List S30 → Int → Int → Int → Option Int
  | 0, _, _, _, _ => none
  | k + 1, x0, x1, x2, x3 => if x3 < x2 then (if 0 ≤ x3 then (if x3 < (x0.length : Int) then ((claim_of_1.f k (rd30 x0 x3) (some x1)).bind fun r0 => if r0 = true then some x3 else slices_IndexFunc115_c101.l2 k x0 x1 x2 (wrap64 (x3 + 1))) else none) else none) else some (-1)
def slices_IndexFunc115_c101.f (k : Nat) (a0 : List S30) (a1 : Int) : Option Int := slices_IndexFunc115_c101.l2 k a0 a1 (a0.length : Int) 0
def slices_IndexFunc115_c101.sig (k : Nat) : Sig E.toTys := ⟨[.slice (.st 1), .ext 101 (.int .i64)], [(false, .int .i64)], none, fun x => f k x.1 x.2.1⟩
noncomputable def slices_IndexFunc115_c101.body : Code := Try.f115.body.getD .skip
def slices_IndexFunc115_c101.calls (k : Nat) : List (Nat × Sig E.toTys) := [(101, claim_of_1.sig k)]
def slices_IndexFunc115_c101.cuts : List (Cut E (RT E.toTys [(false, .int .i64)])) := [⟨true, 2, ⟨cat [.one (.val (.slice (.st 1))), .one (.val (.ext 101 (.int .i64)))] (cat (ds 5) (cat [.one (.val (.int .i64)), .one (.val (.int .i64))] (ds 10))), [], false⟩, fun k x => slices_IndexFunc115_c101.l2 k x.1.1 x.1.2.1 x.1.2.2.1 x.1.2.2.2.1⟩]
theorem slices_IndexFunc115_c101.ok (k : Nat) : Okf (XR E) Try.prog 115 (slices_IndexFunc115_c101.sig k) := ⟨fn_ok (C := fun k => tab.ctx fun f => lk f (slices_IndexFunc115_c101.calls k)) (fun k => tie _) k (fun j hj => calls_ok (kc (claim_of_1.ok j) (kn))) 400 Try.func115 (body := slices_IndexFunc115_c101.body) (res := [.tmp 4]) rfl (by kernel_rfl) slices_IndexFunc115_c101.cuts (kc ⟨by kernel_rfl, rfl, fun _ => rfl, fun _ _ => by kernel_rfl⟩ (kn)) (fun x => by kernel_rfl), _, Try.func115, by kernel_rfl, by kernel_rfl⟩
/-! ### slices.ContainsFunc: function 90 -/
def slices_ContainsFunc90_c101.f (k : Nat) (a0 : List S30) (a1 : Int) : Option Bool := (slices_IndexFunc115_c101.f k a0 a1).bind fun r0 => some (decide (r0 ≥ 0))
def slices_ContainsFunc90_c101.sig (k : Nat) : Sig E.toTys := ⟨[.slice (.st 1), .ext 101 (.int .i64)], [(false, .bool)], none, fun x => f k x.1 x.2.1⟩
noncomputable def slices_ContainsFunc90_c101.body : Code := Try.f90.body.getD .skip
def slices_ContainsFunc90_c101.calls (k : Nat) : List (Nat × Sig E.toTys) := [(115, slices_IndexFunc115_c101.sig k)]
def slices_ContainsFunc90_c101.cuts : List (Cut E (RT E.toTys [(false, .bool)])) := []
theorem slices_ContainsFunc90_c101.ok (k : Nat) : Okf (XR E) Try.prog 90 (slices_ContainsFunc90_c101.sig k) := ⟨fn_ok (C := fun k => tab.ctx fun f => lk f (slices_ContainsFunc90_c101.calls k)) (fun k => tie _) k (fun j hj => calls_ok (kc (slices_IndexFunc115_c101.ok j) (kn))) 400 Try.func90 (body := slices_ContainsFunc90_c101.body) (res := [.tmp 4]) rfl (by kernel_rfl) slices_ContainsFunc90_c101.cuts (kn) (fun x => by kernel_rfl), _, Try.func90, by kernel_rfl, by kernel_rfl⟩
/-! ### steeple/claim.of: function 77 -/
def claim_of.f (k : Nat) (a0 : Int) (a1 : List S30) : Option Bool := (slices_ContainsFunc90_c101.f k a1 a0).bind fun r0 => some (!r0)
def claim_of.sig (k : Nat) : Sig E.toTys := ⟨[.int .i64, .slice (.st 1)], [(false, .bool)], none, fun x => f k x.1 x.2.1⟩
noncomputable def claim_of.body : Code := Try.f77.body.getD .skip
def claim_of.calls (k : Nat) : List (Nat × Sig E.toTys) := [(90, slices_ContainsFunc90_c101.sig k)]
def claim_of.cuts : List (Cut E (RT E.toTys [(false, .bool)])) := []
theorem claim_of.ok (k : Nat) : Okf (XR E) Try.prog 77 (claim_of.sig k) := ⟨fn_ok (C := fun k => tab.ctx fun f => lk f (claim_of.calls k)) (fun k => tie _) k (fun j hj => calls_ok (kc (slices_ContainsFunc90_c101.ok j) (kn))) 400 Try.func77 (body := claim_of.body) (res := [.tmp 4]) rfl (by kernel_rfl) claim_of.cuts (kn) (fun x => by kernel_rfl), _, Try.func77, by kernel_rfl, by kernel_rfl⟩
/-! ### steeple/claim.ask: function 76 -/
def claim_ask.f (k : Nat) (a0 : Int) (a1 : Int) (a2 : Int) (a3 : List S59) (a4 : List S30) (a5 : List S30) : Option Int := (octet_Wide.f k a0).bind fun r0 => if r0 = 0 then some 1 else (claim_Check.f k a1 a2 a3).bind fun r1 => if r1 = 0 then (if (a4.length : Int) = a2 then ((claim_of.f k a0 a4).bind fun r2 => if (!r2) = true then some 5 else (claim_of.f k a0 a5).bind fun r3 => if (!r3) = true then some 5 else some 0) else some 6) else some r1
def claim_ask.sig (k : Nat) : Sig E.toTys := ⟨[.int .i64, .int .i64, .int .i64, .slice (.st 4), .slice (.st 1), .slice (.st 1)], [(false, .int .i64)], none, fun x => f k x.1 x.2.1 x.2.2.1 x.2.2.2.1 x.2.2.2.2.1 x.2.2.2.2.2.1⟩
noncomputable def claim_ask.body : Code := Try.f76.body.getD .skip
def claim_ask.calls (k : Nat) : List (Nat × Sig E.toTys) := [(58, octet_Wide.sig k), (25, claim_Check.sig k), (77, claim_of.sig k)]
def claim_ask.cuts : List (Cut E (RT E.toTys [(false, .int .i64)])) := []
theorem claim_ask.ok (k : Nat) : Okf (XR E) Try.prog 76 (claim_ask.sig k) := ⟨fn_ok (C := fun k => tab.ctx fun f => lk f (claim_ask.calls k)) (fun k => tie _) k (fun j hj => calls_ok (kc (octet_Wide.ok j) (kc (claim_Check.ok j) (kc (claim_of.ok j) (kn))))) 400 Try.func76 (body := claim_ask.body) (res := [.tmp 12]) rfl (by kernel_rfl) claim_ask.cuts (kn) (fun x => by kernel_rfl), _, Try.func76, by kernel_rfl, by kernel_rfl⟩
/-! ### steeple/claim.Mask: function 34 -/
def claim_Mask.f (k : Nat) (a0 : Int) (a1 : Int) (a2 : Int) (a3 : List S59) (a4 : List S30) (a5 : S30) : Option ((List S30) × Int) := (claim_ask.f k a0 a1 a2 a3 a4 [a5]).bind fun r0 => if r0 = 0 then none else some ([], r0)
def claim_Mask.sig (k : Nat) : Sig E.toTys := ⟨[.int .i64, .int .i64, .int .i64, .slice (.st 4), .slice (.st 1), .st 1], [(true, .slice (.st 1)), (false, .int .i64)], none, fun x => f k x.1 x.2.1 x.2.2.1 x.2.2.2.1 x.2.2.2.2.1 x.2.2.2.2.2.1⟩
noncomputable def claim_Mask.body : Code := Try.f34.body.getD .skip
def claim_Mask.calls (k : Nat) : List (Nat × Sig E.toTys) := [(76, claim_ask.sig k)]
def claim_Mask.cuts : List (Cut E (RT E.toTys [(true, .slice (.st 1)), (false, .int .i64)])) := []
theorem claim_Mask.ok (k : Nat) : Okf (XR E) Try.prog 34 (claim_Mask.sig k) := ⟨fn_ok (C := fun k => tab.ctx fun f => lk f (claim_Mask.calls k)) (fun k => tie _) k (fun j hj => calls_ok (kc (claim_ask.ok j) (kn))) 400 Try.func34 (body := claim_Mask.body) (res := [.tmp 12, .tmp 13]) rfl (by kernel_rfl) claim_Mask.cuts (kn) (fun x => by kernel_rfl), _, Try.func34, by kernel_rfl, by kernel_rfl⟩
/-! ### steeple/steeplelaw22.awake: function 21 -/
def steeplelaw22_awake.f (k : Nat) : Option Bool := (claim_Mask.f k 1 0 1 [(⟨0, 0, 0, (⟨0, 0⟩ : S30)⟩ : S59)] [(⟨0, 2⟩ : S30)] (⟨0, 3⟩ : S30)).bind fun r0 => if r0.2 = 0 then (if (r0.1.length : Int) = 2 then (if 0 < (r0.1.length : Int) then (if (rd30 r0.1 (0 : Int)).f0 = 0 ∧ (rd30 r0.1 (0 : Int)).f1 = 3 then (if 1 < (r0.1.length : Int) then some (decide ((rd30 r0.1 (1 : Int)).f0 = 0 ∧ (rd30 r0.1 (1 : Int)).f1 = 2)) else none) else some false) else none) else some false) else some false
def steeplelaw22_awake.sig (k : Nat) : Sig E.toTys := ⟨[], [(false, .bool)], none, fun x => f k⟩
noncomputable def steeplelaw22_awake.body : Code := Try.f21.body.getD .skip
def steeplelaw22_awake.calls (k : Nat) : List (Nat × Sig E.toTys) := [(34, claim_Mask.sig k)]
def steeplelaw22_awake.cuts : List (Cut E (RT E.toTys [(false, .bool)])) := []
theorem steeplelaw22_awake.ok (k : Nat) : Okf (XR E) Try.prog 21 (steeplelaw22_awake.sig k) := ⟨fn_ok (C := fun k => tab.ctx fun f => lk f (steeplelaw22_awake.calls k)) (fun k => tie _) k (fun j hj => calls_ok (kc (claim_Mask.ok j) (kn))) 400 Try.func21 (body := steeplelaw22_awake.body) (res := [.tmp 0]) rfl (by kernel_rfl) steeplelaw22_awake.cuts (kn) (fun x => by kernel_rfl), _, Try.func21, by kernel_rfl, by kernel_rfl⟩
/-! ### steeple/claim.Total$1: function 72 -/
def claim_Total_1.f (k : Nat) (a0 : S59) (a1 : Option Int) : Option Bool := (match a1 with | none => none | some r0 => (octet_Of.f k r0 a0.f3).bind fun r1 => some (!r1))
def claim_Total_1.sig (k : Nat) : Sig E.toTys := ⟨[.st 4, .ptr (.int .i64)], [(false, .bool)], none, fun x => f k x.1 x.2.1⟩
noncomputable def claim_Total_1.body : Code := Try.f72.body.getD .skip
def claim_Total_1.calls (k : Nat) : List (Nat × Sig E.toTys) := [(70, octet_Of.sig k)]
def claim_Total_1.cuts : List (Cut E (RT E.toTys [(false, .bool)])) := []
theorem claim_Total_1.ok (k : Nat) : Okf (XR E) Try.prog 72 (claim_Total_1.sig k) := ⟨fn_ok (C := fun k => tab.ctx fun f => lk f (claim_Total_1.calls k)) (fun k => tie _) k (fun j hj => calls_ok (kc (octet_Of.ok j) (kn))) 400 Try.func72 (body := claim_Total_1.body) (res := [.tmp 3]) rfl (by kernel_rfl) claim_Total_1.cuts (kn) (fun x => by kernel_rfl), _, Try.func72, by kernel_rfl, by kernel_rfl⟩
/-! ### slices.IndexFunc: function 97 -/
def slices_IndexFunc97_c72.l2 : Nat → List S59 → Int → Int → Int → Option Int
  | 0, _, _, _, _ => none
  | k + 1, x0, x1, x2, x3 => if x3 < x2 then (if 0 ≤ x3 then (if x3 < (x0.length : Int) then ((claim_Total_1.f k (rd59 x0 x3) (some x1)).bind fun r0 => if r0 = true then some x3 else slices_IndexFunc97_c72.l2 k x0 x1 x2 (wrap64 (x3 + 1))) else none) else none) else some (-1)
def slices_IndexFunc97_c72.f (k : Nat) (a0 : List S59) (a1 : Int) : Option Int := slices_IndexFunc97_c72.l2 k a0 a1 (a0.length : Int) 0
def slices_IndexFunc97_c72.sig (k : Nat) : Sig E.toTys := ⟨[.slice (.st 4), .ext 72 (.int .i64)], [(false, .int .i64)], none, fun x => f k x.1 x.2.1⟩
noncomputable def slices_IndexFunc97_c72.body : Code := Try.f97.body.getD .skip
def slices_IndexFunc97_c72.calls (k : Nat) : List (Nat × Sig E.toTys) := [(72, claim_Total_1.sig k)]
def slices_IndexFunc97_c72.cuts : List (Cut E (RT E.toTys [(false, .int .i64)])) := [⟨true, 2, ⟨cat [.one (.val (.slice (.st 4))), .one (.val (.ext 72 (.int .i64)))] (cat (ds 5) (cat [.one (.val (.int .i64)), .one (.val (.int .i64))] (ds 10))), [], false⟩, fun k x => slices_IndexFunc97_c72.l2 k x.1.1 x.1.2.1 x.1.2.2.1 x.1.2.2.2.1⟩]
theorem slices_IndexFunc97_c72.ok (k : Nat) : Okf (XR E) Try.prog 97 (slices_IndexFunc97_c72.sig k) := ⟨fn_ok (C := fun k => tab.ctx fun f => lk f (slices_IndexFunc97_c72.calls k)) (fun k => tie _) k (fun j hj => calls_ok (kc (claim_Total_1.ok j) (kn))) 400 Try.func97 (body := slices_IndexFunc97_c72.body) (res := [.tmp 4]) rfl (by kernel_rfl) slices_IndexFunc97_c72.cuts (kc ⟨by kernel_rfl, rfl, fun _ => rfl, fun _ _ => by kernel_rfl⟩ (kn)) (fun x => by kernel_rfl), _, Try.func97, by kernel_rfl, by kernel_rfl⟩
/-! ### slices.ContainsFunc: function 71 -/
def slices_ContainsFunc71_c72.f (k : Nat) (a0 : List S59) (a1 : Int) : Option Bool := (slices_IndexFunc97_c72.f k a0 a1).bind fun r0 => some (decide (r0 ≥ 0))
def slices_ContainsFunc71_c72.sig (k : Nat) : Sig E.toTys := ⟨[.slice (.st 4), .ext 72 (.int .i64)], [(false, .bool)], none, fun x => f k x.1 x.2.1⟩
noncomputable def slices_ContainsFunc71_c72.body : Code := Try.f71.body.getD .skip
def slices_ContainsFunc71_c72.calls (k : Nat) : List (Nat × Sig E.toTys) := [(97, slices_IndexFunc97_c72.sig k)]
def slices_ContainsFunc71_c72.cuts : List (Cut E (RT E.toTys [(false, .bool)])) := []
theorem slices_ContainsFunc71_c72.ok (k : Nat) : Okf (XR E) Try.prog 71 (slices_ContainsFunc71_c72.sig k) := ⟨fn_ok (C := fun k => tab.ctx fun f => lk f (slices_ContainsFunc71_c72.calls k)) (fun k => tie _) k (fun j hj => calls_ok (kc (slices_IndexFunc97_c72.ok j) (kn))) 400 Try.func71 (body := slices_ContainsFunc71_c72.body) (res := [.tmp 4]) rfl (by kernel_rfl) slices_ContainsFunc71_c72.cuts (kn) (fun x => by kernel_rfl), _, Try.func71, by kernel_rfl, by kernel_rfl⟩
/-! ### steeple/claim.Total: function 22 -/
def claim_Total.f (k : Nat) (a0 : Int) (a1 : List S59) (a2 : S30) : Option (S30 × Int) := (octet_Wide.f k a0).bind fun r0 => if r0 = 0 then some ((⟨0, 0⟩ : S30), 1) else (octet_Of.f k a0 a2).bind fun r1 => if (!r1) = true then some ((⟨0, 0⟩ : S30), 5) else (slices_ContainsFunc71_c72.f k a1 a0).bind fun r2 => if r2 = true then some ((⟨0, 0⟩ : S30), 5) else none
def claim_Total.sig (k : Nat) : Sig E.toTys := ⟨[.int .i64, .slice (.st 4), .st 1], [(false, .st 1), (false, .int .i64)], none, fun x => f k x.1 x.2.1 x.2.2.1⟩
noncomputable def claim_Total.body : Code := Try.f22.body.getD .skip
def claim_Total.calls (k : Nat) : List (Nat × Sig E.toTys) := [(58, octet_Wide.sig k), (70, octet_Of.sig k), (71, slices_ContainsFunc71_c72.sig k)]
def claim_Total.cuts : List (Cut E (RT E.toTys [(false, .st 1), (false, .int .i64)])) := []
theorem claim_Total.ok (k : Nat) : Okf (XR E) Try.prog 22 (claim_Total.sig k) := ⟨fn_ok (C := fun k => tab.ctx fun f => lk f (claim_Total.calls k)) (fun k => tie _) k (fun j hj => calls_ok (kc (octet_Wide.ok j) (kc (octet_Of.ok j) (kc (slices_ContainsFunc71_c72.ok j) (kn))))) 400 Try.func22 (body := claim_Total.body) (res := [.cell 6 30, .tmp 7]) rfl (by kernel_rfl) claim_Total.cuts (kn) (fun x => by kernel_rfl), _, Try.func22, by kernel_rfl, by kernel_rfl⟩
/-! ### steeple/steeplelaw22.Ref: function 24 -/
def steeplelaw22_Ref.l3 : Nat → List S59 → Int → List S68 → Option (List S68)
  | 0, _, _, _ => none
  | k + 1, x0, x1, x2 => if x1 < (x0.length : Int) then (if 0 ≤ x1 then (if x1 < (x0.length : Int) then (if 0 ≤ x1 then (if x1 < (x0.length : Int) then (if 0 ≤ x1 then (if x1 < (x0.length : Int) then (if 0 ≤ x1 then (if x1 < (x0.length : Int) then (if x2.length + [(⟨(rd59 x0 x1).f0, (rd59 x0 x1).f1, (rd59 x0 x1).f2, (⟨(rd59 x0 x1).f3.f0, (rd59 x0 x1).f3.f1⟩ : S40)⟩ : S68)].length ≤ 140737488355328 / 40 then steeplelaw22_Ref.l3 k x0 (wrap64 (x1 + 1)) (x2 ++ [(⟨(rd59 x0 x1).f0, (rd59 x0 x1).f1, (rd59 x0 x1).f2, (⟨(rd59 x0 x1).f3.f0, (rd59 x0 x1).f3.f1⟩ : S40)⟩ : S68)]) else none) else none) else none) else none) else none) else none) else none) else none) else none) else some x2
def steeplelaw22_Ref.f (k : Nat) (a0 : List S59) : Option (List S68) := steeplelaw22_Ref.l3 k a0 0 []
def steeplelaw22_Ref.sig (k : Nat) : Sig E.toTys := ⟨[.slice (.st 4)], [(true, .slice (.st 6))], none, fun x => f k x.1⟩
noncomputable def steeplelaw22_Ref.body : Code := Try.f24.body.getD .skip
def steeplelaw22_Ref.calls (k : Nat) : List (Nat × Sig E.toTys) := []
def steeplelaw22_Ref.cuts : List (Cut E (RT E.toTys [(true, .slice (.st 6))])) := [⟨true, 3, ⟨cat [.one (.val (.slice (.st 4)))] (cat (ds 2) (cat [.one (.ref 0), .one (.val (.int .i64))] (ds 31))), [.arr (.st 6)], false⟩, fun k x => steeplelaw22_Ref.l3 k x.1.1 x.1.2.1 x.2.1⟩]
theorem steeplelaw22_Ref.ok (k : Nat) : Okf (XR E) Try.prog 24 (steeplelaw22_Ref.sig k) := ⟨fn_ok (C := fun k => tab.ctx fun f => lk f (steeplelaw22_Ref.calls k)) (fun k => tie _) k (fun j hj => calls_ok (kn)) 400 Try.func24 (body := steeplelaw22_Ref.body) (res := [.tmp 2]) rfl (by kernel_rfl) steeplelaw22_Ref.cuts (kc ⟨by kernel_rfl, rfl, fun _ => rfl, fun _ _ => by kernel_rfl⟩ (kn)) (fun x => by kernel_rfl), _, Try.func24, by kernel_rfl, by kernel_rfl⟩
/-! ### steeple/steepleref22.Total: function 23 -/
mutual
def steepleref22_Total.l7 : Nat → Int → List S68 → Int → Int → Int → Int → Int → Int → Int → Option (S40 × Int)
  | 0, _, _, _, _, _, _, _, _, _ => none
  | k + 1, x0, x1, x2, x3, x4, x5, x6, x7, x8 => if x2 < (x1.length : Int) then (if 0 ≤ x2 then (if x2 < (x1.length : Int) then ((steepleref01_Of.f k x0 (rd68 x1 x2).f3).bind fun r1 => if (!r1) = true then some ((⟨x7, x8⟩ : S40), 5) else steepleref22_Total.l7 k x0 x1 (wrap64 (x2 + 1)) x3 x4 x5 x6 x7 x8) else none) else none) else steepleref22_Total.l12 k x1 (wrap64 ((x1.length : Int) - 1)) x3 x4 x5 x6 x7 x8
def steepleref22_Total.l12 : Nat → List S68 → Int → Int → Int → Int → Int → Int → Int → Option (S40 × Int)
  | 0, _, _, _, _, _, _, _, _ => none
  | k + 1, x0, x1, x2, x3, x4, x5, x6, x7 => if x1 ≥ 0 then ((steepleref02_Product.f k (⟨x6, x7⟩ : S40) (⟨x2, x3⟩ : S40)).bind fun r2 => if 0 ≤ x1 then (if x1 < (x0.length : Int) then ((steepleref02_Add.f k r2 (rd68 x0 x1).f3).bind fun r3 => steepleref22_Total.l12 k x0 (wrap64 (x1 - 1)) x2 x3 x4 x5 r3.f0 r3.f1) else none) else none) else some ((⟨x6, x7⟩ : S40), 0)
end
def steepleref22_Total.f (k : Nat) (a0 : Int) (a1 : List S68) (a2 : S40) : Option (S40 × Int) := if a0 < 0 then some ((⟨0, 0⟩ : S40), 1) else if a0 > 7 then some ((⟨0, 0⟩ : S40), 1) else (steepleref01_Of.f k a0 a2).bind fun r0 => if (!r0) = true then some ((⟨0, 0⟩ : S40), 5) else steepleref22_Total.l7 k a0 a1 0 a2.f0 a2.f1 0 0 0 0
def steepleref22_Total.sig (k : Nat) : Sig E.toTys := ⟨[.int .i64, .slice (.st 6), .st 3], [(false, .st 3), (false, .int .i64)], none, fun x => f k x.1 x.2.1 x.2.2.1⟩
noncomputable def steepleref22_Total.body : Code := Try.f23.body.getD .skip
def steepleref22_Total.calls (k : Nat) : List (Nat × Sig E.toTys) := [(28, steepleref01_Of.sig k), (69, steepleref02_Product.sig k), (67, steepleref02_Add.sig k)]
def steepleref22_Total.cuts : List (Cut E (RT E.toTys [(false, .st 3), (false, .int .i64)])) := [⟨true, 7, ⟨cat [.one (.val (.int .i64)), .one (.val (.slice (.st 6)))] (cat (ds 3) (cat [.one (.ptr 0 0), .one (.ptr 1 0)] (cat (ds 1) (cat [.one (.ptr 2 0), .one (.val (.int .i64))] (ds 45))))), [.var [.val (.int .u64), .val (.int .u64)], .var [.val (.int .u64), .val (.int .u64)], .var [.val (.int .u64), .val (.int .u64)]], false⟩, fun k x => steepleref22_Total.l7 k x.1.1 x.1.2.1 x.1.2.2.1 x.2.1.1 x.2.1.2.1 x.2.2.1.1 x.2.2.1.2.1 x.2.2.2.1.1 x.2.2.2.1.2.1⟩,
  ⟨true, 12, ⟨cat (ds 1) (cat [.one (.val (.slice (.st 6)))] (cat (ds 3) (cat [.one (.ptr 0 0), .one (.ptr 1 0)] (cat (ds 1) (cat [.one (.ptr 2 0)] (cat (ds 1) (cat [.one (.val (.int .i64))] (ds 44)))))))), [.var [.val (.int .u64), .val (.int .u64)], .var [.val (.int .u64), .val (.int .u64)], .var [.val (.int .u64), .val (.int .u64)]], false⟩, fun k x => steepleref22_Total.l12 k x.1.1 x.1.2.1 x.2.1.1 x.2.1.2.1 x.2.2.1.1 x.2.2.1.2.1 x.2.2.2.1.1 x.2.2.2.1.2.1⟩]
theorem steepleref22_Total.ok (k : Nat) : Okf (XR E) Try.prog 23 (steepleref22_Total.sig k) := ⟨fn_ok (C := fun k => tab.ctx fun f => lk f (steepleref22_Total.calls k)) (fun k => tie _) k (fun j hj => calls_ok (kc (steepleref01_Of.ok j) (kc (steepleref02_Product.ok j) (kc (steepleref02_Add.ok j) (kn))))) 400 Try.func23 (body := steepleref22_Total.body) (res := [.cell 6 40, .tmp 7]) rfl (by kernel_rfl) steepleref22_Total.cuts (kc ⟨by kernel_rfl, rfl, fun _ => rfl, fun _ _ => by kernel_rfl⟩ (kc ⟨by kernel_rfl, rfl, fun _ => rfl, fun _ _ => by kernel_rfl⟩ (kn))) (fun x => by kernel_rfl), _, Try.func23, by kernel_rfl, by kernel_rfl⟩
/-! ### steeple/steepleref22.Check: function 26 -/
mutual
def steepleref22_Check.j2 : Nat → Option Int
  | 0 => none
  | k + 1 => some 1
def steepleref22_Check.l6 : Nat → Int → Int → List S68 → Int → Option Int
  | 0, _, _, _, _ => none
  | k + 1, x0, x1, x2, x3 => if x3 < (x2.length : Int) then (if 0 ≤ x3 then (if x3 < (x2.length : Int) then (if (rd68 x2 x3).f0 < 0 then some 4 else if 0 ≤ x3 then (if x3 < (x2.length : Int) then ((steepleref15_Two.f k x0).bind fun r0 => if (rd68 x2 x3).f0 ≥ r0 then some 4 else if 0 ≤ x3 then (if x3 < (x2.length : Int) then (if 0 ≤ x3 then (if x3 < (x2.length : Int) then ((steepleref18_Fits.f k (rd68 x2 x3).f1 x1 (rd68 x2 x3).f2).bind fun r1 => if (!r1) = true then some 1 else steepleref22_Check.l6 k x0 x1 x2 (wrap64 (x3 + 1))) else none) else none) else none) else none) else none) else none) else none) else none) else some 0
end
def steepleref22_Check.f (k : Nat) (a0 : Int) (a1 : Int) (a2 : List S68) : Option Int := if a0 < 0 then steepleref22_Check.j2 k else if a0 > 6 then steepleref22_Check.j2 k else if a1 < 0 then steepleref22_Check.j2 k else if a1 > 6 then steepleref22_Check.j2 k else if (a2.length : Int) > 200 then some 2 else steepleref22_Check.l6 k a0 a1 a2 0
def steepleref22_Check.sig (k : Nat) : Sig E.toTys := ⟨[.int .i64, .int .i64, .slice (.st 6)], [(false, .int .i64)], none, fun x => f k x.1 x.2.1 x.2.2.1⟩
noncomputable def steepleref22_Check.body : Code := Try.f26.body.getD .skip
def steepleref22_Check.calls (k : Nat) : List (Nat × Sig E.toTys) := [(29, steepleref15_Two.sig k), (65, steepleref18_Fits.sig k)]
def steepleref22_Check.cuts : List (Cut E (RT E.toTys [(false, .int .i64)])) := [⟨false, 2, ⟨ds 60, [], false⟩, fun k x => steepleref22_Check.j2 k⟩,
  ⟨true, 6, ⟨cat [.one (.val (.int .i64)), .one (.val (.int .i64)), .one (.val (.slice (.st 6)))] (cat (ds 4) (cat [.one (.val (.int .i64))] (ds 52))), [], false⟩, fun k x => steepleref22_Check.l6 k x.1.1 x.1.2.1 x.1.2.2.1 x.1.2.2.2.1⟩]
theorem steepleref22_Check.ok (k : Nat) : Okf (XR E) Try.prog 26 (steepleref22_Check.sig k) := ⟨fn_ok (C := fun k => tab.ctx fun f => lk f (steepleref22_Check.calls k)) (fun k => tie _) k (fun j hj => calls_ok (kc (steepleref15_Two.ok j) (kc (steepleref18_Fits.ok j) (kn)))) 400 Try.func26 (body := steepleref22_Check.body) (res := [.tmp 6]) rfl (by kernel_rfl) steepleref22_Check.cuts (kc ⟨by kernel_rfl, rfl, fun _ => rfl, fun _ _ => by kernel_rfl⟩ (kc ⟨by kernel_rfl, rfl, fun _ => rfl, fun _ _ => by kernel_rfl⟩ (kn))) (fun x => by kernel_rfl), _, Try.func26, by kernel_rfl, by kernel_rfl⟩
/-! ### steeple/steeplelaw22.ClaimTotals: function 4 -/
def steeplelaw22_ClaimTotals.f (k : Nat) (a0 : Int) (a1 : S46) : Option Bool := (steeplelaw22_Few.f k a1).bind fun r0 => if (!r0) = true then ((steeplelaw22_awake.f k).bind fun r1 => some r1) else (claim_Total.f k a0 a1.f2 a1.f4).bind fun r2 => (steeplelaw22_Ref.f k a1.f2).bind fun r3 => (steepleref22_Total.f k a0 r3 (⟨a1.f4.f0, a1.f4.f1⟩ : S40)).bind fun r4 => (steeplelaw22_awake.f k).bind fun r5 => if r5 = true then (if r2.1.f0 = r4.1.f0 ∧ r2.1.f1 = r4.1.f1 then (if r2.2 = r4.2 then ((claim_Check.f k a1.f0 a1.f1 a1.f2).bind fun r6 => (steeplelaw22_Ref.f k a1.f2).bind fun r7 => (steepleref22_Check.f k a1.f0 a1.f1 r7).bind fun r8 => some (decide (r6 = r8))) else some false) else some false) else some false
def steeplelaw22_ClaimTotals.sig (k : Nat) : Sig E.toTys := ⟨[.int .i64, .st 5], [(false, .bool)], none, fun x => f k x.1 x.2.1⟩
noncomputable def steeplelaw22_ClaimTotals.body : Code := Try.f4.body.getD .skip
def steeplelaw22_ClaimTotals.calls (k : Nat) : List (Nat × Sig E.toTys) := [(20, steeplelaw22_Few.sig k), (21, steeplelaw22_awake.sig k), (22, claim_Total.sig k), (24, steeplelaw22_Ref.sig k), (23, steepleref22_Total.sig k), (25, claim_Check.sig k), (26, steepleref22_Check.sig k)]
def steeplelaw22_ClaimTotals.cuts : List (Cut E (RT E.toTys [(false, .bool)])) := []
theorem steeplelaw22_ClaimTotals.ok (k : Nat) : Okf (XR E) Try.prog 4 (steeplelaw22_ClaimTotals.sig k) := ⟨fn_ok (C := fun k => tab.ctx fun f => lk f (steeplelaw22_ClaimTotals.calls k)) (fun k => tie _) k (fun j hj => calls_ok (kc (steeplelaw22_Few.ok j) (kc (steeplelaw22_awake.ok j) (kc (claim_Total.ok j) (kc (steeplelaw22_Ref.ok j) (kc (steepleref22_Total.ok j) (kc (claim_Check.ok j) (kc (steepleref22_Check.ok j) (kn))))))))) 400 Try.func4 (body := steeplelaw22_ClaimTotals.body) (res := [.tmp 4]) rfl (by kernel_rfl) steeplelaw22_ClaimTotals.cuts (kn) (fun x => by kernel_rfl), _, Try.func4, by kernel_rfl, by kernel_rfl⟩
/-! ### steeple/steeplelaw22.ClaimCounts: function 5 -/
mutual
def steeplelaw22_ClaimCounts.j2 : Nat → Option Bool
  | 0 => none
  | k + 1 => (steeplelaw22_awake.f k).bind fun r2 => some r2
def steeplelaw22_ClaimCounts.l6 : Nat → Int → List S59 → List S30 → Bool → Int → List S59 → Option Bool
  | 0, _, _, _, _, _, _ => none
  | k + 1, x0, x1, x2, x3, x4, x5 => if x4 < (x1.length : Int) then (if 0 ≤ x4 then (if x4 < (x1.length : Int) then ((steepleref01_Of.f k x0 (⟨(rd59 x1 x4).f3.f0, (rd59 x1 x4).f3.f1⟩ : S40)).bind fun r3 => if (!r3) = true then ((steeplelaw22_awake.f k).bind fun r4 => some r4) else if x3 = true then (if 0 ≤ x4 then (if x4 < (x1.length : Int) then (if 0 ≤ x4 then (if x4 < (x2.length : Int) then steeplelaw22_ClaimCounts.j11 k x0 x1 x2 (decide ((rd59 x1 x4).f3.f0 = (rd30 x2 x4).f0 ∧ (rd59 x1 x4).f3.f1 = (rd30 x2 x4).f1)) x4 x5 else none) else none) else none) else none) else steeplelaw22_ClaimCounts.j11 k x0 x1 x2 false x4 x5) else none) else none) else if 0 ≤ x0 then (if x0 < ([2, 4, 16].length : Int) then steeplelaw22_ClaimCounts.l17 k x0 x1 x3 (rdI [2, 4, 16] x0) 0 0 x5 else none) else none
def steeplelaw22_ClaimCounts.j11 : Nat → Int → List S59 → List S30 → Bool → Int → List S59 → Option Bool
  | 0, _, _, _, _, _, _ => none
  | k + 1, x0, x1, x2, x3, x4, x5 => if 0 ≤ x4 then (if x4 < (x1.length : Int) then (if 0 ≤ x4 then (if x4 < (x2.length : Int) then (if x5.length + [(⟨(rd59 x1 x4).f0, (rd59 x1 x4).f1, (rd59 x1 x4).f2, rd30 x2 x4⟩ : S59)].length ≤ 140737488355328 / 40 then steeplelaw22_ClaimCounts.j7 k x0 x1 x2 x3 x4 (x5 ++ [(⟨(rd59 x1 x4).f0, (rd59 x1 x4).f1, (rd59 x1 x4).f2, rd30 x2 x4⟩ : S59)]) else none) else none) else none) else none) else none
def steeplelaw22_ClaimCounts.l17 : Nat → Int → List S59 → Bool → Int → Int → Int → List S59 → Option Bool
  | 0, _, _, _, _, _, _, _ => none
  | k + 1, x0, x1, x2, x3, x4, x5, x6 => if x5 < x3 then ((claim_Total.f k x0 x1 (⟨0, IntKind.u64.wrap x5⟩ : S30)).bind fun r5 => (claim_Total.f k x0 x6 (⟨0, IntKind.u64.wrap x5⟩ : S30)).bind fun r6 => if r5.2 = 0 then (if r6.2 = 0 then (if r5.1.f0 = r6.1.f0 ∧ r5.1.f1 = r6.1.f1 then steeplelaw22_ClaimCounts.l17 k x0 x1 x2 x3 (wrap64 (x4 + 1)) (wrap64 (x5 + 1)) x6 else steeplelaw22_ClaimCounts.l17 k x0 x1 x2 x3 x4 (wrap64 (x5 + 1)) x6) else some false) else some false) else if x2 = true then ((steeplelaw22_awake.f k).bind fun r7 => if r7 = true then some (decide (x4 = x3)) else some false) else (steeplelaw22_awake.f k).bind fun r8 => if r8 = true then some (decide (x4 ≤ wrap64 ((x1.length : Int) - 1))) else some false
def steeplelaw22_ClaimCounts.j7 : Nat → Int → List S59 → List S30 → Bool → Int → List S59 → Option Bool
  | 0, _, _, _, _, _, _ => none
  | k + 1, x0, x1, x2, x3, x4, x5 => steeplelaw22_ClaimCounts.l6 k x0 x1 x2 x3 (wrap64 (x4 + 1)) x5
end
def steeplelaw22_ClaimCounts.f (k : Nat) (a0 : Int) (a1 : List S59) (a2 : List S30) : Option Bool := if a0 < 0 then steeplelaw22_ClaimCounts.j2 k else if a0 > 2 then steeplelaw22_ClaimCounts.j2 k else if (a1.length : Int) > 12 then steeplelaw22_ClaimCounts.j2 k else if (a1.length : Int) = (a2.length : Int) then ((steeplelaw01_Ref.f k a2).bind fun r0 => (steepleref06_All.f k a0 r0).bind fun r1 => if (!r1) = true then steeplelaw22_ClaimCounts.j2 k else steeplelaw22_ClaimCounts.l6 k a0 a1 a2 true 0 []) else steeplelaw22_ClaimCounts.j2 k
def steeplelaw22_ClaimCounts.sig (k : Nat) : Sig E.toTys := ⟨[.int .i64, .slice (.st 4), .slice (.st 1)], [(false, .bool)], none, fun x => f k x.1 x.2.1 x.2.2.1⟩
noncomputable def steeplelaw22_ClaimCounts.body : Code := Try.f5.body.getD .skip
def steeplelaw22_ClaimCounts.calls (k : Nat) : List (Nat × Sig E.toTys) := [(16, steeplelaw01_Ref.sig k), (27, steepleref06_All.sig k), (21, steeplelaw22_awake.sig k), (28, steepleref01_Of.sig k), (22, claim_Total.sig k)]
def steeplelaw22_ClaimCounts.cuts : List (Cut E (RT E.toTys [(false, .bool)])) := [⟨false, 2, ⟨ds 138, [], false⟩, fun k x => steeplelaw22_ClaimCounts.j2 k⟩,
  ⟨true, 6, ⟨cat [.one (.val (.int .i64)), .one (.val (.slice (.st 4))), .one (.val (.slice (.st 1)))] (cat (ds 4) (cat [.one (.val (.bool)), .one (.ref 0), .one (.val (.int .i64))] (ds 128))), [.arr (.st 4)], false⟩, fun k x => steeplelaw22_ClaimCounts.l6 k x.1.1 x.1.2.1 x.1.2.2.1 x.1.2.2.2.1 x.1.2.2.2.2.1 x.2.1⟩,
  ⟨false, 11, ⟨cat [.one (.val (.int .i64)), .one (.val (.slice (.st 4))), .one (.val (.slice (.st 1)))] (cat (ds 4) (cat [.one (.val (.bool)), .one (.ref 0), .one (.val (.int .i64))] (ds 128))), [.arr (.st 4)], false⟩, fun k x => steeplelaw22_ClaimCounts.j11 k x.1.1 x.1.2.1 x.1.2.2.1 x.1.2.2.2.1 x.1.2.2.2.2.1 x.2.1⟩,
  ⟨true, 17, ⟨cat [.one (.val (.int .i64)), .one (.val (.slice (.st 4)))] (cat (ds 5) (cat [.one (.val (.bool)), .one (.ref 0)] (cat (ds 2) (cat [.one (.val (.int .i64)), .one (.val (.int .i64)), .one (.val (.int .i64))] (ds 124))))), [.arr (.st 4)], false⟩, fun k x => steeplelaw22_ClaimCounts.l17 k x.1.1 x.1.2.1 x.1.2.2.1 x.1.2.2.2.1 x.1.2.2.2.2.1 x.1.2.2.2.2.2.1 x.2.1⟩,
  ⟨false, 7, ⟨cat [.one (.val (.int .i64)), .one (.val (.slice (.st 4))), .one (.val (.slice (.st 1)))] (cat (ds 4) (cat [.one (.val (.bool)), .one (.ref 0), .one (.val (.int .i64))] (ds 128))), [.arr (.st 4)], false⟩, fun k x => steeplelaw22_ClaimCounts.j7 k x.1.1 x.1.2.1 x.1.2.2.1 x.1.2.2.2.1 x.1.2.2.2.2.1 x.2.1⟩]
theorem steeplelaw22_ClaimCounts.ok (k : Nat) : Okf (XR E) Try.prog 5 (steeplelaw22_ClaimCounts.sig k) := ⟨fn_ok (C := fun k => tab.ctx fun f => lk f (steeplelaw22_ClaimCounts.calls k)) (fun k => tie _) k (fun j hj => calls_ok (kc (steeplelaw01_Ref.ok j) (kc (steepleref06_All.ok j) (kc (steeplelaw22_awake.ok j) (kc (steepleref01_Of.ok j) (kc (claim_Total.ok j) (kn))))))) 400 Try.func5 (body := steeplelaw22_ClaimCounts.body) (res := [.tmp 6]) rfl (by kernel_rfl) steeplelaw22_ClaimCounts.cuts (kc ⟨by kernel_rfl, rfl, fun _ => rfl, fun _ _ => by kernel_rfl⟩ (kc ⟨by kernel_rfl, rfl, fun _ => rfl, fun _ _ => by kernel_rfl⟩ (kc ⟨by kernel_rfl, rfl, fun _ => rfl, fun _ _ => by kernel_rfl⟩ (kc ⟨by kernel_rfl, rfl, fun _ => rfl, fun _ _ => by kernel_rfl⟩ (kc ⟨by kernel_rfl, rfl, fun _ => rfl, fun _ _ => by kernel_rfl⟩ (kn)))))) (fun x => by kernel_rfl), _, Try.func5, by kernel_rfl, by kernel_rfl⟩
end Go.Proofs.Ytnjaocdgjaaffaa.B
namespace Go.Proofs.Ytnjaocdgjaaffaa.B
open Go.Proofs.Ytnjaocdgjaaffaa.V.B Go.RowKit
set_option linter.unusedVariables false
/-! ### steeple/cube.Corner: function 31 -/
mutual
def cube_Corner.j2 : Nat → Option (List S30)
  | 0 => none
  | k + 1 => some []
def cube_Corner.l5 : Nat → Int → Int → Int → List S30 → Option (List S30)
  | 0, _, _, _, _ => none
  | k + 1, x0, x1, x2, x3 => if x2 < x1 then (if 0 ≤ x2 then (if x3.length + [(⟨0, IntKind.u64.wrap (bits .and .i64 (shr .i64 x0 x2) 1)⟩ : S30)].length ≤ 140737488355328 / 16 then cube_Corner.l5 k x0 x1 (wrap64 (x2 + 1)) (x3 ++ [(⟨0, IntKind.u64.wrap (bits .and .i64 (shr .i64 x0 x2) 1)⟩ : S30)]) else none) else none) else some x3
end
def cube_Corner.f (k : Nat) (a0 : Int) (a1 : Int) : Option (List S30) := if a0 < 1 then cube_Corner.j2 k else if a0 > 16 then cube_Corner.j2 k else if a1 < 0 then cube_Corner.j2 k else if 0 ≤ a0 then (if a1 ≥ shl .i64 1 a0 then cube_Corner.j2 k else cube_Corner.l5 k a1 a0 0 []) else none
def cube_Corner.sig (k : Nat) : Sig E.toTys := ⟨[.int .i64, .int .i64], [(true, .slice (.st 1))], none, fun x => f k x.1 x.2.1⟩
noncomputable def cube_Corner.body : Code := Try.f31.body.getD .skip
def cube_Corner.calls (k : Nat) : List (Nat × Sig E.toTys) := []
def cube_Corner.cuts : List (Cut E (RT E.toTys [(true, .slice (.st 1))])) := [⟨false, 2, ⟨ds 38, [], false⟩, fun k x => cube_Corner.j2 k⟩,
  ⟨true, 5, ⟨cat (ds 1) (cat [.one (.val (.int .i64))] (cat (ds 3) (cat [.one (.ref 0)] (cat (ds 17) (cat [.one (.val (.int .i64)), .one (.val (.int .i64))] (ds 13)))))), [.arr (.st 1)], false⟩, fun k x => cube_Corner.l5 k x.1.1 x.1.2.1 x.1.2.2.1 x.2.1⟩]
theorem cube_Corner.ok (k : Nat) : Okf (XR E) Try.prog 31 (cube_Corner.sig k) := ⟨fn_ok (C := fun k => tab.ctx fun f => lk f (cube_Corner.calls k)) (fun k => tie _) k (fun j hj => calls_ok (kn)) 400 Try.func31 (body := cube_Corner.body) (res := [.tmp 4]) rfl (by kernel_rfl) cube_Corner.cuts (kc ⟨by kernel_rfl, rfl, fun _ => rfl, fun _ _ => by kernel_rfl⟩ (kc ⟨by kernel_rfl, rfl, fun _ => rfl, fun _ _ => by kernel_rfl⟩ (kn))) (fun x => by kernel_rfl), _, Try.func31, by kernel_rfl, by kernel_rfl⟩
/-! ### steeple/tower.Dot: function 35 -/
def tower_Dot.l5 : Nat → Int → List S30 → List S30 → Int → Int → Int → Int → Int → Int → Option S30
  | 0, _, _, _, _, _, _, _, _, _ => none
  | k + 1, x0, x1, x2, x3, x4, x5, x6, x7, x8 => if x4 < x3 then (if 0 ≤ x4 then (if x4 < (x1.length : Int) then ((octet_Of.f k x0 (rd30 x1 x4)).bind fun r0 => if (!r0) = true then some (⟨0, 0⟩ : S30) else if 0 ≤ x4 then (if x4 < (x2.length : Int) then ((octet_Of.f k x0 (rd30 x2 x4)).bind fun r1 => if (!r1) = true then some (⟨0, 0⟩ : S30) else if 0 ≤ x4 then (if x4 < (x1.length : Int) then (if 0 ≤ x4 then (if x4 < (x2.length : Int) then ((tower_Mul.f k x0 (rd30 x1 x4) (rd30 x2 x4)).bind fun r2 => (tower_Add.f k (⟨x7, x8⟩ : S30) r2).bind fun r3 => tower_Dot.l5 k x0 x1 x2 x3 (wrap64 (x4 + 1)) x5 x6 r3.f0 r3.f1) else none) else none) else none) else none) else none) else none) else none) else none) else some (⟨x7, x8⟩ : S30)
def tower_Dot.f (k : Nat) (a0 : Int) (a1 : List S30) (a2 : List S30) : Option S30 := if (a1.length : Int) = (a2.length : Int) then tower_Dot.l5 k a0 a1 a2 (a1.length : Int) 0 0 0 0 0 else some (⟨0, 0⟩ : S30)
def tower_Dot.sig (k : Nat) : Sig E.toTys := ⟨[.int .i64, .slice (.st 1), .slice (.st 1)], [(false, .st 1)], none, fun x => f k x.1 x.2.1 x.2.2.1⟩
noncomputable def tower_Dot.body : Code := Try.f35.body.getD .skip
def tower_Dot.calls (k : Nat) : List (Nat × Sig E.toTys) := [(70, octet_Of.sig k), (74, tower_Mul.sig k), (62, tower_Add.sig k)]
def tower_Dot.cuts : List (Cut E (RT E.toTys [(false, .st 1)])) := [⟨true, 5, ⟨cat [.one (.val (.int .i64)), .one (.val (.slice (.st 1))), .one (.val (.slice (.st 1)))] (cat (ds 3) (cat [.one (.ptr 0 0), .one (.ptr 1 0)] (cat (ds 8) (cat [.one (.val (.int .i64)), .one (.val (.int .i64))] (ds 33))))), [.var [.val (.int .u64), .val (.int .u64)], .var [.val (.int .u64), .val (.int .u64)]], false⟩, fun k x => tower_Dot.l5 k x.1.1 x.1.2.1 x.1.2.2.1 x.1.2.2.2.1 x.1.2.2.2.2.1 x.2.1.1 x.2.1.2.1 x.2.2.1.1 x.2.2.1.2.1⟩]
theorem tower_Dot.ok (k : Nat) : Okf (XR E) Try.prog 35 (tower_Dot.sig k) := ⟨fn_ok (C := fun k => tab.ctx fun f => lk f (tower_Dot.calls k)) (fun k => tie _) k (fun j hj => calls_ok (kc (octet_Of.ok j) (kc (tower_Mul.ok j) (kc (tower_Add.ok j) (kn))))) 400 Try.func35 (body := tower_Dot.body) (res := [.cell 6 30]) rfl (by kernel_rfl) tower_Dot.cuts (kc ⟨by kernel_rfl, rfl, fun _ => rfl, fun _ _ => by kernel_rfl⟩ (kn)) (fun x => by kernel_rfl), _, Try.func35, by kernel_rfl, by kernel_rfl⟩
/-! ### steeple/claim.True: function 30 -/
def claim_True.l10 : Nat → Int → Int → List S30 → List S30 → List S59 → Int → Int → List S30 → Option ((List S30) × Int)
  | 0, _, _, _, _, _, _, _, _ => none
  | k + 1, x0, x1, x2, x3, x4, x5, x6, x7 => if x6 < x5 then (if 0 ≤ x6 then (if x6 < (x4.length : Int) then ((turn_Row.f k x0 (rd59 x4 x6).f1 x1 (rd59 x4 x6).f2 x2).bind fun r2 => if 0 ≤ x1 then (if 0 ≤ x1 then (if 0 ≤ shl .i64 (rd59 x4 x6).f0 x1 then (if shl .i64 (rd59 x4 x6).f0 x1 ≤ shl .i64 (wrap64 ((rd59 x4 x6).f0 + 1)) x1 then (if shl .i64 (wrap64 ((rd59 x4 x6).f0 + 1)) x1 ≤ (x3.length : Int) then ((tower_Dot.f k x0 r2.1 ((x3.take (Int.toNat (shl .i64 (wrap64 ((rd59 x4 x6).f0 + 1)) x1))).drop (Int.toNat (shl .i64 (rd59 x4 x6).f0 x1)))).bind fun r3 => if x7.length + [r3].length ≤ 140737488355328 / 16 then claim_True.l10 k x0 x1 x2 x3 x4 x5 (wrap64 (x6 + 1)) (x7 ++ [r3]) else none) else none) else none) else none) else none) else none) else none) else none) else some (x7, 0)
def claim_True.f (k : Nat) (a0 : Int) (a1 : Int) (a2 : Int) (a3 : List S59) (a4 : List S30) (a5 : List S30) : Option ((List S30) × Int) := (claim_ask.f k a0 a1 a2 a3 a4 []).bind fun r0 => if r0 = 0 then (if 0 ≤ wrap64 (a2 + a1) then (if (a5.length : Int) = shl .i64 1 (wrap64 (a2 + a1)) then ((claim_of.f k a0 a5).bind fun r1 => if (!r1) = true then some ([], 5) else claim_True.l10 k a0 a2 a4 a5 a3 (a3.length : Int) 0 []) else some ([], 6)) else none) else some ([], r0)
def claim_True.sig (k : Nat) : Sig E.toTys := ⟨[.int .i64, .int .i64, .int .i64, .slice (.st 4), .slice (.st 1), .slice (.st 1)], [(true, .slice (.st 1)), (false, .int .i64)], none, fun x => f k x.1 x.2.1 x.2.2.1 x.2.2.2.1 x.2.2.2.2.1 x.2.2.2.2.2.1⟩
noncomputable def claim_True.body : Code := Try.f30.body.getD .skip
def claim_True.calls (k : Nat) : List (Nat × Sig E.toTys) := [(76, claim_ask.sig k), (77, claim_of.sig k), (15, turn_Row.sig k), (35, tower_Dot.sig k)]
def claim_True.cuts : List (Cut E (RT E.toTys [(true, .slice (.st 1)), (false, .int .i64)])) := [⟨true, 10, ⟨cat [.one (.val (.int .i64))] (cat (ds 1) (cat [.one (.val (.int .i64))] (cat (ds 1) (cat [.one (.val (.slice (.st 1))), .one (.val (.slice (.st 1)))] (cat (ds 9) (cat [.one (.ref 0)] (cat (ds 27) (cat [.one (.val (.slice (.st 4))), .one (.val (.int .i64)), .one (.val (.int .i64))] (ds 33))))))))), [.arr (.st 1)], false⟩, fun k x => claim_True.l10 k x.1.1 x.1.2.1 x.1.2.2.1 x.1.2.2.2.1 x.1.2.2.2.2.1 x.1.2.2.2.2.2.1 x.1.2.2.2.2.2.2.1 x.2.1⟩]
theorem claim_True.ok (k : Nat) : Okf (XR E) Try.prog 30 (claim_True.sig k) := ⟨fn_ok (C := fun k => tab.ctx fun f => lk f (claim_True.calls k)) (fun k => tie _) k (fun j hj => calls_ok (kc (claim_ask.ok j) (kc (claim_of.ok j) (kc (turn_Row.ok j) (kc (tower_Dot.ok j) (kn)))))) 400 Try.func30 (body := claim_True.body) (res := [.tmp 12, .tmp 13]) rfl (by kernel_rfl) claim_True.cuts (kc ⟨by kernel_rfl, rfl, fun _ => rfl, fun _ _ => by kernel_rfl⟩ (kn)) (fun x => by kernel_rfl), _, Try.func30, by kernel_rfl, by kernel_rfl⟩
/-! ### steeple/steeplelaw22.ClaimCorners: function 6 -/
mutual
def steeplelaw22_ClaimCorners.j2 : Nat → Option Bool
  | 0 => none
  | k + 1 => (steeplelaw22_awake.f k).bind fun r1 => some r1
def steeplelaw22_ClaimCorners.l7 : Nat → Int → List S30 → Int → Int → Int → Int → Int → List S59 → List S30 → Int → Int → List S59 → Option Bool
  | 0, _, _, _, _, _, _, _, _, _, _, _, _ => none
  | k + 1, x0, x1, x2, x3, x4, x5, x6, x7, x8, x9, x10, x11 => (steepleref15_Two.f k x5).bind fun r2 => if x4 < r2 then (if x11.length + [(⟨x4, 0, 0, (⟨0, 0⟩ : S30)⟩ : S59)].length ≤ 140737488355328 / 40 then steeplelaw22_ClaimCorners.l7 k x0 x1 x2 x3 (wrap64 (x4 + 1)) x5 x6 x7 x8 x9 x10 (x11 ++ [(⟨x4, 0, 0, (⟨0, 0⟩ : S30)⟩ : S59)]) else none) else (cube_Corner.f k x6 x3).bind fun r3 => (claim_True.f k x0 x5 x6 x11 r3 x1).bind fun r4 => if r4.2 = 0 then steeplelaw22_ClaimCorners.l14 k x1 x2 x3 0 x11 r4.1 else (steeplelaw22_awake.f k).bind fun r5 => some r5
def steeplelaw22_ClaimCorners.l14 : Nat → List S30 → Int → Int → Int → List S59 → List S30 → Option Bool
  | 0, _, _, _, _, _, _ => none
  | k + 1, x0, x1, x2, x3, x4, x5 => if x3 < (x4.length : Int) then (if x3 ≥ (x5.length : Int) then some false else if 0 ≤ x3 then (if x3 < (x5.length : Int) then (if 0 ≤ wrap64 ((wrap64 (x1 * x3)) + x2) then (if wrap64 ((wrap64 (x1 * x3)) + x2) < (x0.length : Int) then (if (rd30 x5 x3).f0 = (rd30 x0 (wrap64 ((wrap64 (x1 * x3)) + x2))).f0 ∧ (rd30 x5 x3).f1 = (rd30 x0 (wrap64 ((wrap64 (x1 * x3)) + x2))).f1 then steeplelaw22_ClaimCorners.l14 k x0 x1 x2 (wrap64 (x3 + 1)) x4 x5 else some false) else none) else none) else none) else none) else (steeplelaw22_awake.f k).bind fun r6 => some r6
end
def steeplelaw22_ClaimCorners.f (k : Nat) (a0 : Int) (a1 : S46) (a2 : List S30) : Option Bool := if a1.f0 < 0 then steeplelaw22_ClaimCorners.j2 k else if a1.f0 > 2 then steeplelaw22_ClaimCorners.j2 k else if a1.f1 < 1 then steeplelaw22_ClaimCorners.j2 k else if a1.f1 > 3 then steeplelaw22_ClaimCorners.j2 k else if (a2.length : Int) > 40 then steeplelaw22_ClaimCorners.j2 k else (steepleref15_Two.f k a1.f1).bind fun r0 => if IntKind.u64.wrap r0 = 0 then none else steeplelaw22_ClaimCorners.l7 k a0 a2 r0 (wrap64 (Int.tmod a1.f4.f1 (IntKind.u64.wrap r0))) 0 a1.f0 a1.f1 a1.f2 a1.f3 a1.f4.f0 a1.f4.f1 []
def steeplelaw22_ClaimCorners.sig (k : Nat) : Sig E.toTys := ⟨[.int .i64, .st 5, .slice (.st 1)], [(false, .bool)], none, fun x => f k x.1 x.2.1 x.2.2.1⟩
noncomputable def steeplelaw22_ClaimCorners.body : Code := Try.f6.body.getD .skip
def steeplelaw22_ClaimCorners.calls (k : Nat) : List (Nat × Sig E.toTys) := [(29, steepleref15_Two.sig k), (21, steeplelaw22_awake.sig k), (31, cube_Corner.sig k), (30, claim_True.sig k)]
def steeplelaw22_ClaimCorners.cuts : List (Cut E (RT E.toTys [(false, .bool)])) := [⟨false, 2, ⟨ds 104, [], false⟩, fun k x => steeplelaw22_ClaimCorners.j2 k⟩,
  ⟨true, 7, ⟨cat [.one (.val (.int .i64))] (cat (ds 1) (cat [.one (.val (.slice (.st 1)))] (cat (ds 1) (cat [.one (.ptr 0 0)] (cat (ds 2) (cat [.one (.val (.int .i64)), .one (.val (.int .i64)), .one (.ref 1), .one (.val (.int .i64))] (ds 93))))))), [.var [.val (.int .i64), .val (.int .i64), .val (.slice (.st 4)), .val (.slice (.st 1)), .val (.int .u64), .val (.int .u64)], .arr (.st 4)], false⟩, fun k x => steeplelaw22_ClaimCorners.l7 k x.1.1 x.1.2.1 x.1.2.2.1 x.1.2.2.2.1 x.1.2.2.2.2.1 x.2.1.1 x.2.1.2.1 x.2.1.2.2.1 x.2.1.2.2.2.1 x.2.1.2.2.2.2.1 x.2.1.2.2.2.2.2.1 x.2.2.1⟩,
  ⟨true, 14, ⟨cat (ds 2) (cat [.one (.val (.slice (.st 1)))] (cat (ds 4) (cat [.one (.val (.int .i64)), .one (.val (.int .i64)), .one (.ref 0)] (cat (ds 1) (cat [.one (.ref 1)] (cat (ds 1) (cat [.one (.val (.int .i64))] (ds 90)))))))), [.arr (.st 4), .arr (.st 1)], false⟩, fun k x => steeplelaw22_ClaimCorners.l14 k x.1.1 x.1.2.1 x.1.2.2.1 x.1.2.2.2.1 x.2.1 x.2.2.1⟩]
theorem steeplelaw22_ClaimCorners.ok (k : Nat) : Okf (XR E) Try.prog 6 (steeplelaw22_ClaimCorners.sig k) := ⟨fn_ok (C := fun k => tab.ctx fun f => lk f (steeplelaw22_ClaimCorners.calls k)) (fun k => tie _) k (fun j hj => calls_ok (kc (steepleref15_Two.ok j) (kc (steeplelaw22_awake.ok j) (kc (cube_Corner.ok j) (kc (claim_True.ok j) (kn)))))) 400 Try.func6 (body := steeplelaw22_ClaimCorners.body) (res := [.tmp 6]) rfl (by kernel_rfl) steeplelaw22_ClaimCorners.cuts (kc ⟨by kernel_rfl, rfl, fun _ => rfl, fun _ _ => by kernel_rfl⟩ (kc ⟨by kernel_rfl, rfl, fun _ => rfl, fun _ _ => by kernel_rfl⟩ (kc ⟨by kernel_rfl, rfl, fun _ => rfl, fun _ _ => by kernel_rfl⟩ (kn)))) (fun x => by kernel_rfl), _, Try.func6, by kernel_rfl, by kernel_rfl⟩
/-! ### steeple/steepleref22.May: function 32 -/
def steepleref22_May.f (k : Nat) (a0 : Int) (a1 : Int) (a2 : Int) (a3 : List S68) (a4 : List S40) : Option Int := if a0 < 0 then some 1 else if a0 > 7 then some 1 else (steepleref22_Check.f k a1 a2 a3).bind fun r0 => if r0 = 0 then (if (a4.length : Int) = a2 then ((steepleref06_All.f k a0 a4).bind fun r1 => if (!r1) = true then some 5 else some 0) else some 6) else (steepleref22_Check.f k a1 a2 a3).bind fun r2 => some r2
def steepleref22_May.sig (k : Nat) : Sig E.toTys := ⟨[.int .i64, .int .i64, .int .i64, .slice (.st 6), .slice (.st 3)], [(false, .int .i64)], none, fun x => f k x.1 x.2.1 x.2.2.1 x.2.2.2.1 x.2.2.2.2.1⟩
noncomputable def steepleref22_May.body : Code := Try.f32.body.getD .skip
def steepleref22_May.calls (k : Nat) : List (Nat × Sig E.toTys) := [(26, steepleref22_Check.sig k), (27, steepleref06_All.sig k)]
def steepleref22_May.cuts : List (Cut E (RT E.toTys [(false, .int .i64)])) := []
theorem steepleref22_May.ok (k : Nat) : Okf (XR E) Try.prog 32 (steepleref22_May.sig k) := ⟨fn_ok (C := fun k => tab.ctx fun f => lk f (steepleref22_May.calls k)) (fun k => tie _) k (fun j hj => calls_ok (kc (steepleref22_Check.ok j) (kc (steepleref06_All.ok j) (kn)))) 400 Try.func32 (body := steepleref22_May.body) (res := [.tmp 10]) rfl (by kernel_rfl) steepleref22_May.cuts (kn) (fun x => by kernel_rfl), _, Try.func32, by kernel_rfl, by kernel_rfl⟩
/-! ### steeple/steepleref15.Value: function 39 -/
def steepleref15_Value.l3 : Nat → List S40 → List S40 → Int → Int → Int → Int → Int → Option S40
  | 0, _, _, _, _, _, _, _ => none
  | k + 1, x0, x1, x2, x3, x4, x5, x6 => if x2 < (x0.length : Int) then (if 0 ≤ x2 then (if x2 < (x0.length : Int) then ((steepleref15_Weight.f k x1 x2).bind fun r0 => (steepleref02_Product.f k (rd40 x0 x2) r0).bind fun r1 => (steepleref02_Add.f k (⟨x5, x6⟩ : S40) r1).bind fun r2 => steepleref15_Value.l3 k x0 x1 (wrap64 (x2 + 1)) x3 x4 r2.f0 r2.f1) else none) else none) else some (⟨x5, x6⟩ : S40)
def steepleref15_Value.f (k : Nat) (a0 : List S40) (a1 : List S40) : Option S40 := steepleref15_Value.l3 k a0 a1 0 0 0 0 0
def steepleref15_Value.sig (k : Nat) : Sig E.toTys := ⟨[.slice (.st 3), .slice (.st 3)], [(false, .st 3)], none, fun x => f k x.1 x.2.1⟩
noncomputable def steepleref15_Value.body : Code := Try.f39.body.getD .skip
def steepleref15_Value.calls (k : Nat) : List (Nat × Sig E.toTys) := [(68, steepleref15_Weight.sig k), (69, steepleref02_Product.sig k), (67, steepleref02_Add.sig k)]
def steepleref15_Value.cuts : List (Cut E (RT E.toTys [(false, .st 3)])) := [⟨true, 3, ⟨cat [.one (.val (.slice (.st 3))), .one (.val (.slice (.st 3)))] (cat (ds 2) (cat [.one (.ptr 0 0), .one (.ptr 1 0), .one (.val (.int .i64))] (ds 17))), [.var [.val (.int .u64), .val (.int .u64)], .var [.val (.int .u64), .val (.int .u64)]], false⟩, fun k x => steepleref15_Value.l3 k x.1.1 x.1.2.1 x.1.2.2.1 x.2.1.1 x.2.1.2.1 x.2.2.1.1 x.2.2.1.2.1⟩]
theorem steepleref15_Value.ok (k : Nat) : Okf (XR E) Try.prog 39 (steepleref15_Value.sig k) := ⟨fn_ok (C := fun k => tab.ctx fun f => lk f (steepleref15_Value.calls k)) (fun k => tie _) k (fun j hj => calls_ok (kc (steepleref15_Weight.ok j) (kc (steepleref02_Product.ok j) (kc (steepleref02_Add.ok j) (kn))))) 400 Try.func39 (body := steepleref15_Value.body) (res := [.cell 4 40]) rfl (by kernel_rfl) steepleref15_Value.cuts (kc ⟨by kernel_rfl, rfl, fun _ => rfl, fun _ _ => by kernel_rfl⟩ (kn)) (fun x => by kernel_rfl), _, Try.func39, by kernel_rfl, by kernel_rfl⟩
/-! ### steeple/steepleref22.True: function 33 -/
mutual
def steepleref22_True.l4 : Nat → Int → List S40 → List S40 → Int → Int → Int → Int → Int → Int → Int → Int → Int → List S40 → Option S40
  | 0, _, _, _, _, _, _, _, _, _, _, _, _, _ => none
  | k + 1, x0, x1, x2, x3, x4, x5, x6, x7, x8, x9, x10, x11, x12 => if x4 < x3 then steepleref22_True.l8 k x0 x1 x2 x3 x4 0 x5 x6 x7 x8 x9 x10 x11 x12 0 0 else (steepleref15_Value.f k x12 x1).bind fun r1 => some r1
def steepleref22_True.l8 : Nat → Int → List S40 → List S40 → Int → Int → Int → Int → Int → Int → Int → Int → Int → Int → List S40 → Int → Int → Option S40
  | 0, _, _, _, _, _, _, _, _, _, _, _, _, _, _, _, _ => none
  | k + 1, x0, x1, x2, x3, x4, x5, x6, x7, x8, x9, x10, x11, x12, x13, x14, x15 => if x5 < x3 then ((steepleref18_Was.f k x7 x0 x8 x4 x5).bind fun r2 => if r2 = true then (if 0 ≤ wrap64 ((wrap64 (x3 * x6)) + x5) then (if wrap64 ((wrap64 (x3 * x6)) + x5) < (x2.length : Int) then steepleref22_True.l8 k x0 x1 x2 x3 x4 (wrap64 (x5 + 1)) x6 x7 x8 x9 x10 x11 x12 x13 (rd40 x2 (wrap64 ((wrap64 (x3 * x6)) + x5))).f0 (rd40 x2 (wrap64 ((wrap64 (x3 * x6)) + x5))).f1 else none) else none) else steepleref22_True.l8 k x0 x1 x2 x3 x4 (wrap64 (x5 + 1)) x6 x7 x8 x9 x10 x11 x12 x13 x14 x15) else if x13.length + [(⟨x14, x15⟩ : S40)].length ≤ 140737488355328 / 16 then steepleref22_True.l4 k x0 x1 x2 x3 (wrap64 (x4 + 1)) x6 x7 x8 x9 x10 x11 x12 (x13 ++ [(⟨x14, x15⟩ : S40)]) else none
end
def steepleref22_True.f (k : Nat) (a0 : Int) (a1 : S68) (a2 : List S40) (a3 : List S40) : Option S40 := (steepleref15_Two.f k a0).bind fun r0 => steepleref22_True.l4 k a0 a2 a3 r0 0 a1.f0 a1.f1 a1.f2 a1.f3.f0 a1.f3.f1 0 0 []
def steepleref22_True.sig (k : Nat) : Sig E.toTys := ⟨[.int .i64, .st 6, .slice (.st 3), .slice (.st 3)], [(false, .st 3)], none, fun x => f k x.1 x.2.1 x.2.2.1 x.2.2.2.1⟩
noncomputable def steepleref22_True.body : Code := Try.f33.body.getD .skip
def steepleref22_True.calls (k : Nat) : List (Nat × Sig E.toTys) := [(29, steepleref15_Two.sig k), (39, steepleref15_Value.sig k), (66, steepleref18_Was.sig k)]
def steepleref22_True.cuts : List (Cut E (RT E.toTys [(false, .st 3)])) := [⟨true, 4, ⟨cat [.one (.val (.int .i64))] (cat (ds 1) (cat [.one (.val (.slice (.st 3))), .one (.val (.slice (.st 3)))] (cat (ds 1) (cat [.one (.ptr 0 0)] (cat (ds 2) (cat [.one (.ptr 1 0), .one (.val (.int .i64)), .one (.ref 2), .one (.val (.int .i64))] (ds 38))))))), [.var [.val (.int .i64), .val (.int .i64), .val (.int .i64), .val (.int .u64), .val (.int .u64)], .var [.val (.int .u64), .val (.int .u64)], .arr (.st 3)], false⟩, fun k x => steepleref22_True.l4 k x.1.1 x.1.2.1 x.1.2.2.1 x.1.2.2.2.1 x.1.2.2.2.2.1 x.2.1.1 x.2.1.2.1 x.2.1.2.2.1 x.2.1.2.2.2.1 x.2.1.2.2.2.2.1 x.2.2.1.1 x.2.2.1.2.1 x.2.2.2.1⟩,
  ⟨true, 8, ⟨cat [.one (.val (.int .i64))] (cat (ds 1) (cat [.one (.val (.slice (.st 3))), .one (.val (.slice (.st 3)))] (cat (ds 1) (cat [.one (.ptr 0 0)] (cat (ds 2) (cat [.one (.ptr 1 0), .one (.val (.int .i64)), .one (.ref 2), .one (.val (.int .i64)), .one (.ptr 3 0), .one (.val (.int .i64))] (ds 36))))))), [.var [.val (.int .i64), .val (.int .i64), .val (.int .i64), .val (.int .u64), .val (.int .u64)], .var [.val (.int .u64), .val (.int .u64)], .arr (.st 3), .var [.val (.int .u64), .val (.int .u64)]], false⟩, fun k x => steepleref22_True.l8 k x.1.1 x.1.2.1 x.1.2.2.1 x.1.2.2.2.1 x.1.2.2.2.2.1 x.1.2.2.2.2.2.1 x.2.1.1 x.2.1.2.1 x.2.1.2.2.1 x.2.1.2.2.2.1 x.2.1.2.2.2.2.1 x.2.2.1.1 x.2.2.1.2.1 x.2.2.2.1 x.2.2.2.2.1.1 x.2.2.2.2.1.2.1⟩]
theorem steepleref22_True.ok (k : Nat) : Okf (XR E) Try.prog 33 (steepleref22_True.sig k) := ⟨fn_ok (C := fun k => tab.ctx fun f => lk f (steepleref22_True.calls k)) (fun k => tie _) k (fun j hj => calls_ok (kc (steepleref15_Two.ok j) (kc (steepleref15_Value.ok j) (kc (steepleref18_Was.ok j) (kn))))) 400 Try.func33 (body := steepleref22_True.body) (res := [.cell 8 40]) rfl (by kernel_rfl) steepleref22_True.cuts (kc ⟨by kernel_rfl, rfl, fun _ => rfl, fun _ _ => by kernel_rfl⟩ (kc ⟨by kernel_rfl, rfl, fun _ => rfl, fun _ _ => by kernel_rfl⟩ (kn))) (fun x => by kernel_rfl), _, Try.func33, by kernel_rfl, by kernel_rfl⟩
/-! ### steeple/steeplelaw22.ClaimTrue: function 7 -/
mutual
def steeplelaw22_ClaimTrue.j8 : Nat → Int → List S30 → Int → Int → Int → Int → List S59 → List S30 → Int → Int → List S68 → List S40 → List S40 → List S30 → Option Bool
  | 0, _, _, _, _, _, _, _, _, _, _, _, _, _, _ => none
  | k + 1, x0, x1, x2, x3, x4, x5, x6, x7, x8, x9, x10, x11, x12, x13 => if x3 = 0 then ((steepleref06_All.f k x0 x12).bind fun r10 => if (!r10) = true then steeplelaw22_ClaimTrue.j10 k x0 x1 x2 5 x4 x5 x6 x7 x8 x9 x10 x11 x12 x13 else steeplelaw22_ClaimTrue.j10 k x0 x1 x2 x3 x4 x5 x6 x7 x8 x9 x10 x11 x12 x13) else steeplelaw22_ClaimTrue.j10 k x0 x1 x2 x3 x4 x5 x6 x7 x8 x9 x10 x11 x12 x13
def steeplelaw22_ClaimTrue.j10 : Nat → Int → List S30 → Int → Int → Int → Int → List S59 → List S30 → Int → Int → List S68 → List S40 → List S40 → List S30 → Option Bool
  | 0, _, _, _, _, _, _, _, _, _, _, _, _, _, _ => none
  | k + 1, x0, x1, x2, x3, x4, x5, x6, x7, x8, x9, x10, x11, x12, x13 => if x3 = 0 then (if x2 = 0 then (if (x13.length : Int) = (x10.length : Int) then steeplelaw22_ClaimTrue.l16 k x0 x1 0 x4 x5 x6 x7 x8 x9 x10 x11 x12 x13 [] else steeplelaw22_ClaimTrue.j13 k) else steeplelaw22_ClaimTrue.j13 k) else (steeplelaw22_awake.f k).bind fun r11 => if r11 = true then (if x2 = x3 then some (decide ((x13.length : Int) = 0)) else some false) else some false
def steeplelaw22_ClaimTrue.l16 : Nat → Int → List S30 → Int → Int → Int → List S59 → List S30 → Int → Int → List S68 → List S40 → List S40 → List S30 → List S59 → Option Bool
  | 0, _, _, _, _, _, _, _, _, _, _, _, _, _, _ => none
  | k + 1, x0, x1, x2, x3, x4, x5, x6, x7, x8, x9, x10, x11, x12, x13 => if x2 < (x12.length : Int) then (if 0 ≤ x2 then (if x2 < (x12.length : Int) then (if 0 ≤ x2 then (if x2 < (x9.length : Int) then ((steepleref22_True.f k x4 (rd68 x9 x2) x10 x11).bind fun r12 => if (rd30 x12 x2).f0 = r12.f0 ∧ (rd30 x12 x2).f1 = r12.f1 then (if 0 ≤ x2 then (if x2 < (x5.length : Int) then (if 0 ≤ x2 then (if x2 < (x12.length : Int) then (if x13.length + [(⟨(rd59 x5 x2).f0, (rd59 x5 x2).f1, (rd59 x5 x2).f2, rd30 x12 x2⟩ : S59)].length ≤ 140737488355328 / 40 then steeplelaw22_ClaimTrue.l16 k x0 x1 (wrap64 (x2 + 1)) x3 x4 x5 x6 x7 x8 x9 x10 x11 x12 (x13 ++ [(⟨(rd59 x5 x2).f0, (rd59 x5 x2).f1, (rd59 x5 x2).f2, rd30 x12 x2⟩ : S59)]) else none) else none) else none) else none) else none) else some false) else none) else none) else none) else none) else (claim_Mask.f k x0 x3 x4 x5 x6 (⟨x7, x8⟩ : S30)).bind fun r13 => (claim_Total.f k x0 x13 (⟨x7, x8⟩ : S30)).bind fun r14 => if r13.2 = 0 then (if r14.2 = 0 then ((steeplelaw22_awake.f k).bind fun r15 => if r15 = true then ((tower_Dot.f k x0 r13.1 x1).bind fun r16 => some (decide (r16.f0 = r14.1.f0 ∧ r16.f1 = r14.1.f1))) else some false) else steeplelaw22_ClaimTrue.j26 k r13.2 r14.2) else steeplelaw22_ClaimTrue.j26 k r13.2 r14.2
def steeplelaw22_ClaimTrue.j13 : Nat → Option Bool
  | 0 => none
  | k + 1 => some false
def steeplelaw22_ClaimTrue.j26 : Nat → Int → Int → Option Bool
  | 0, _, _ => none
  | k + 1, x0, x1 => (steeplelaw22_awake.f k).bind fun r17 => if r17 = true then some (decide (x0 = x1)) else some false
end
def steeplelaw22_ClaimTrue.f (k : Nat) (a0 : Int) (a1 : S46) (a2 : List S30) : Option Bool := (steeplelaw22_Few.f k a1).bind fun r0 => if (!r0) = true then ((steeplelaw22_awake.f k).bind fun r1 => some r1) else if (a2.length : Int) > 40 then ((steeplelaw22_awake.f k).bind fun r2 => some r2) else (steeplelaw22_Ref.f k a1.f2).bind fun r3 => (steeplelaw01_Ref.f k a1.f3).bind fun r4 => (steeplelaw01_Ref.f k a2).bind fun r5 => (claim_True.f k a0 a1.f0 a1.f1 a1.f2 a1.f3 a2).bind fun r6 => (steepleref22_May.f k a0 a1.f0 a1.f1 r3 r4).bind fun r7 => if r7 = 0 then ((steepleref15_Two.f k a1.f1).bind fun r8 => (steepleref15_Two.f k a1.f0).bind fun r9 => if (a2.length : Int) = wrap64 (r8 * r9) then steeplelaw22_ClaimTrue.j8 k a0 a2 r6.2 r7 a1.f0 a1.f1 a1.f2 a1.f3 a1.f4.f0 a1.f4.f1 r3 r4 r5 r6.1 else steeplelaw22_ClaimTrue.j8 k a0 a2 r6.2 6 a1.f0 a1.f1 a1.f2 a1.f3 a1.f4.f0 a1.f4.f1 r3 r4 r5 r6.1) else steeplelaw22_ClaimTrue.j8 k a0 a2 r6.2 r7 a1.f0 a1.f1 a1.f2 a1.f3 a1.f4.f0 a1.f4.f1 r3 r4 r5 r6.1
def steeplelaw22_ClaimTrue.sig (k : Nat) : Sig E.toTys := ⟨[.int .i64, .st 5, .slice (.st 1)], [(false, .bool)], none, fun x => f k x.1 x.2.1 x.2.2.1⟩
noncomputable def steeplelaw22_ClaimTrue.body : Code := Try.f7.body.getD .skip
def steeplelaw22_ClaimTrue.calls (k : Nat) : List (Nat × Sig E.toTys) := [(20, steeplelaw22_Few.sig k), (21, steeplelaw22_awake.sig k), (24, steeplelaw22_Ref.sig k), (16, steeplelaw01_Ref.sig k), (30, claim_True.sig k), (32, steepleref22_May.sig k), (29, steepleref15_Two.sig k), (27, steepleref06_All.sig k), (33, steepleref22_True.sig k), (34, claim_Mask.sig k), (22, claim_Total.sig k), (35, tower_Dot.sig k)]
def steeplelaw22_ClaimTrue.cuts : List (Cut E (RT E.toTys [(false, .bool)])) := [⟨false, 8, ⟨cat [.one (.val (.int .i64))] (cat (ds 1) (cat [.one (.val (.slice (.st 1)))] (cat (ds 1) (cat [.one (.ptr 0 0)] (cat (ds 2) (cat [.one (.ref 1), .one (.ref 2), .one (.ref 3), .one (.ref 4), .one (.val (.int .i64)), .one (.val (.int .i64))] (ds 168))))))), [.var [.val (.int .i64), .val (.int .i64), .val (.slice (.st 4)), .val (.slice (.st 1)), .val (.int .u64), .val (.int .u64)], .arr (.st 6), .arr (.st 3), .arr (.st 3), .arr (.st 1)], false⟩, fun k x => steeplelaw22_ClaimTrue.j8 k x.1.1 x.1.2.1 x.1.2.2.1 x.1.2.2.2.1 x.2.1.1 x.2.1.2.1 x.2.1.2.2.1 x.2.1.2.2.2.1 x.2.1.2.2.2.2.1 x.2.1.2.2.2.2.2.1 x.2.2.1 x.2.2.2.1 x.2.2.2.2.1 x.2.2.2.2.2.1⟩,
  ⟨false, 10, ⟨cat [.one (.val (.int .i64))] (cat (ds 1) (cat [.one (.val (.slice (.st 1)))] (cat (ds 1) (cat [.one (.ptr 0 0)] (cat (ds 2) (cat [.one (.ref 1), .one (.ref 2), .one (.ref 3), .one (.ref 4), .one (.val (.int .i64)), .one (.val (.int .i64))] (ds 168))))))), [.var [.val (.int .i64), .val (.int .i64), .val (.slice (.st 4)), .val (.slice (.st 1)), .val (.int .u64), .val (.int .u64)], .arr (.st 6), .arr (.st 3), .arr (.st 3), .arr (.st 1)], false⟩, fun k x => steeplelaw22_ClaimTrue.j10 k x.1.1 x.1.2.1 x.1.2.2.1 x.1.2.2.2.1 x.2.1.1 x.2.1.2.1 x.2.1.2.2.1 x.2.1.2.2.2.1 x.2.1.2.2.2.2.1 x.2.1.2.2.2.2.2.1 x.2.2.1 x.2.2.2.1 x.2.2.2.2.1 x.2.2.2.2.2.1⟩,
  ⟨true, 16, ⟨cat [.one (.val (.int .i64))] (cat (ds 1) (cat [.one (.val (.slice (.st 1)))] (cat (ds 1) (cat [.one (.ptr 0 0)] (cat (ds 2) (cat [.one (.ref 1), .one (.ref 2), .one (.ref 3), .one (.ref 4)] (cat (ds 2) (cat [.one (.ref 5), .one (.val (.int .i64))] (ds 166))))))))), [.var [.val (.int .i64), .val (.int .i64), .val (.slice (.st 4)), .val (.slice (.st 1)), .val (.int .u64), .val (.int .u64)], .arr (.st 6), .arr (.st 3), .arr (.st 3), .arr (.st 1), .arr (.st 4)], false⟩, fun k x => steeplelaw22_ClaimTrue.l16 k x.1.1 x.1.2.1 x.1.2.2.1 x.2.1.1 x.2.1.2.1 x.2.1.2.2.1 x.2.1.2.2.2.1 x.2.1.2.2.2.2.1 x.2.1.2.2.2.2.2.1 x.2.2.1 x.2.2.2.1 x.2.2.2.2.1 x.2.2.2.2.2.1 x.2.2.2.2.2.2.1⟩,
  ⟨false, 13, ⟨ds 181, [], false⟩, fun k x => steeplelaw22_ClaimTrue.j13 k⟩,
  ⟨false, 26, ⟨cat (ds 17) (cat [.one (.val (.int .i64))] (cat (ds 1) (cat [.one (.val (.int .i64))] (ds 161)))), [], false⟩, fun k x => steeplelaw22_ClaimTrue.j26 k x.1.1 x.1.2.1⟩]
theorem steeplelaw22_ClaimTrue.ok (k : Nat) : Okf (XR E) Try.prog 7 (steeplelaw22_ClaimTrue.sig k) := ⟨fn_ok (C := fun k => tab.ctx fun f => lk f (steeplelaw22_ClaimTrue.calls k)) (fun k => tie _) k (fun j hj => calls_ok (kc (steeplelaw22_Few.ok j) (kc (steeplelaw22_awake.ok j) (kc (steeplelaw22_Ref.ok j) (kc (steeplelaw01_Ref.ok j) (kc (claim_True.ok j) (kc (steepleref22_May.ok j) (kc (steepleref15_Two.ok j) (kc (steepleref06_All.ok j) (kc (steepleref22_True.ok j) (kc (claim_Mask.ok j) (kc (claim_Total.ok j) (kc (tower_Dot.ok j) (kn)))))))))))))) 400 Try.func7 (body := steeplelaw22_ClaimTrue.body) (res := [.tmp 6]) rfl (by kernel_rfl) steeplelaw22_ClaimTrue.cuts (kc ⟨by kernel_rfl, rfl, fun _ => rfl, fun _ _ => by kernel_rfl⟩ (kc ⟨by kernel_rfl, rfl, fun _ => rfl, fun _ _ => by kernel_rfl⟩ (kc ⟨by kernel_rfl, rfl, fun _ => rfl, fun _ _ => by kernel_rfl⟩ (kc ⟨by kernel_rfl, rfl, fun _ => rfl, fun _ _ => by kernel_rfl⟩ (kc ⟨by kernel_rfl, rfl, fun _ => rfl, fun _ _ => by kernel_rfl⟩ (kn)))))) (fun x => by kernel_rfl), _, Try.func7, by kernel_rfl, by kernel_rfl⟩
/-! ### steeple/claim.At: function 36 -/
def claim_At.f (k : Nat) (a0 : Int) (a1 : Int) (a2 : Int) (a3 : List S59) (a4 : List S30) (a5 : S30) (a6 : List S30) : Option (S30 × Int) := (claim_ask.f k a0 a1 a2 a3 a4 [a5]).bind fun r0 => if r0 = 0 then (if (a6.length : Int) = wrap64 (a2 + a1) then ((claim_of.f k a0 a6).bind fun r1 => if (!r1) = true then some ((⟨0, 0⟩ : S30), 5) else none) else some ((⟨0, 0⟩ : S30), 6)) else some ((⟨0, 0⟩ : S30), r0)
def claim_At.sig (k : Nat) : Sig E.toTys := ⟨[.int .i64, .int .i64, .int .i64, .slice (.st 4), .slice (.st 1), .st 1, .slice (.st 1)], [(false, .st 1), (false, .int .i64)], none, fun x => f k x.1 x.2.1 x.2.2.1 x.2.2.2.1 x.2.2.2.2.1 x.2.2.2.2.2.1 x.2.2.2.2.2.2.1⟩
noncomputable def claim_At.body : Code := Try.f36.body.getD .skip
def claim_At.calls (k : Nat) : List (Nat × Sig E.toTys) := [(76, claim_ask.sig k), (77, claim_of.sig k)]
def claim_At.cuts : List (Cut E (RT E.toTys [(false, .st 1), (false, .int .i64)])) := []
theorem claim_At.ok (k : Nat) : Okf (XR E) Try.prog 36 (claim_At.sig k) := ⟨fn_ok (C := fun k => tab.ctx fun f => lk f (claim_At.calls k)) (fun k => tie _) k (fun j hj => calls_ok (kc (claim_ask.ok j) (kc (claim_of.ok j) (kn)))) 400 Try.func36 (body := claim_At.body) (res := [.cell 14 30, .tmp 15]) rfl (by kernel_rfl) claim_At.cuts (kn) (fun x => by kernel_rfl), _, Try.func36, by kernel_rfl, by kernel_rfl⟩
/-! ### steeple/steepleref22.Mask: function 38 -/
mutual
def steepleref22_Mask.l3 : Nat → Int → Int → List S68 → List S40 → Int → Int → Int → List S40 → Option (List S40)
  | 0, _, _, _, _, _, _, _, _ => none
  | k + 1, x0, x1, x2, x3, x4, x5, x6, x7 => (steepleref15_Two.f k x0).bind fun r0 => if x4 < r0 then steepleref22_Mask.l6 k x0 x1 x2 x3 x4 0 x5 x6 x7 else some x7
def steepleref22_Mask.l6 : Nat → Int → Int → List S68 → List S40 → Int → Int → Int → Int → List S40 → Option (List S40)
  | 0, _, _, _, _, _, _, _, _, _ => none
  | k + 1, x0, x1, x2, x3, x4, x5, x6, x7, x8 => (steepleref15_Two.f k x1).bind fun r1 => if x5 < r1 then steepleref22_Mask.l11 k x0 x1 x2 x3 x4 x5 0 x6 x7 x8 0 0 0 1 else steepleref22_Mask.l3 k x0 x1 x2 x3 (wrap64 (x4 + 1)) x6 x7 x8
def steepleref22_Mask.l11 : Nat → Int → Int → List S68 → List S40 → Int → Int → Int → Int → Int → List S40 → Int → Int → Int → Int → Option (List S40)
  | 0, _, _, _, _, _, _, _, _, _, _, _, _, _, _ => none
  | k + 1, x0, x1, x2, x3, x4, x5, x6, x7, x8, x9, x10, x11, x12, x13 => if x6 < (x2.length : Int) then (if 0 ≤ x6 then (if x6 < (x2.length : Int) then (if (rd68 x2 x6).f0 = x4 then (if 0 ≤ x6 then (if x6 < (x2.length : Int) then (if 0 ≤ x6 then (if x6 < (x2.length : Int) then ((steepleref18_SignAt.f k (rd68 x2 x6).f1 x1 (rd68 x2 x6).f2 x3 x5).bind fun r2 => (steepleref02_Product.f k (⟨x12, x13⟩ : S40) r2).bind fun r3 => (steepleref02_Add.f k (⟨x10, x11⟩ : S40) r3).bind fun r4 => steepleref22_Mask.j15 k x0 x1 x2 x3 x4 x5 x6 x7 x8 x9 r4.f0 r4.f1 x12 x13) else none) else none) else none) else none) else steepleref22_Mask.j15 k x0 x1 x2 x3 x4 x5 x6 x7 x8 x9 x10 x11 x12 x13) else none) else none) else if x9.length + [(⟨x10, x11⟩ : S40)].length ≤ 140737488355328 / 16 then steepleref22_Mask.l6 k x0 x1 x2 x3 x4 (wrap64 (x5 + 1)) x7 x8 (x9 ++ [(⟨x10, x11⟩ : S40)]) else none
def steepleref22_Mask.j15 : Nat → Int → Int → List S68 → List S40 → Int → Int → Int → Int → Int → List S40 → Int → Int → Int → Int → Option (List S40)
  | 0, _, _, _, _, _, _, _, _, _, _, _, _, _, _ => none
  | k + 1, x0, x1, x2, x3, x4, x5, x6, x7, x8, x9, x10, x11, x12, x13 => (steepleref02_Product.f k (⟨x12, x13⟩ : S40) (⟨x7, x8⟩ : S40)).bind fun r5 => steepleref22_Mask.j12 k x0 x1 x2 x3 x4 x5 x6 x7 x8 x9 x10 x11 r5.f0 r5.f1
def steepleref22_Mask.j12 : Nat → Int → Int → List S68 → List S40 → Int → Int → Int → Int → Int → List S40 → Int → Int → Int → Int → Option (List S40)
  | 0, _, _, _, _, _, _, _, _, _, _, _, _, _, _ => none
  | k + 1, x0, x1, x2, x3, x4, x5, x6, x7, x8, x9, x10, x11, x12, x13 => steepleref22_Mask.l11 k x0 x1 x2 x3 x4 x5 (wrap64 (x6 + 1)) x7 x8 x9 x10 x11 x12 x13
end
def steepleref22_Mask.f (k : Nat) (a0 : Int) (a1 : Int) (a2 : List S68) (a3 : List S40) (a4 : S40) : Option (List S40) := steepleref22_Mask.l3 k a0 a1 a2 a3 0 a4.f0 a4.f1 []
def steepleref22_Mask.sig (k : Nat) : Sig E.toTys := ⟨[.int .i64, .int .i64, .slice (.st 6), .slice (.st 3), .st 3], [(true, .slice (.st 3))], none, fun x => f k x.1 x.2.1 x.2.2.1 x.2.2.2.1 x.2.2.2.2.1⟩
noncomputable def steepleref22_Mask.body : Code := Try.f38.body.getD .skip
def steepleref22_Mask.calls (k : Nat) : List (Nat × Sig E.toTys) := [(29, steepleref15_Two.sig k), (18, steepleref18_SignAt.sig k), (69, steepleref02_Product.sig k), (67, steepleref02_Add.sig k)]
def steepleref22_Mask.cuts : List (Cut E (RT E.toTys [(true, .slice (.st 3))])) := [⟨true, 3, ⟨cat [.one (.val (.int .i64)), .one (.val (.int .i64)), .one (.val (.slice (.st 6))), .one (.val (.slice (.st 3)))] (cat (ds 5) (cat [.one (.ptr 0 0)] (cat (ds 1) (cat [.one (.ref 1), .one (.val (.int .i64))] (ds 56))))), [.var [.val (.int .u64), .val (.int .u64)], .arr (.st 3)], false⟩, fun k x => steepleref22_Mask.l3 k x.1.1 x.1.2.1 x.1.2.2.1 x.1.2.2.2.1 x.1.2.2.2.2.1 x.2.1.1 x.2.1.2.1 x.2.2.1⟩,
  ⟨true, 6, ⟨cat [.one (.val (.int .i64)), .one (.val (.int .i64)), .one (.val (.slice (.st 6))), .one (.val (.slice (.st 3)))] (cat (ds 5) (cat [.one (.ptr 0 0)] (cat (ds 1) (cat [.one (.ref 1), .one (.val (.int .i64)), .one (.val (.int .i64))] (ds 55))))), [.var [.val (.int .u64), .val (.int .u64)], .arr (.st 3)], false⟩, fun k x => steepleref22_Mask.l6 k x.1.1 x.1.2.1 x.1.2.2.1 x.1.2.2.2.1 x.1.2.2.2.2.1 x.1.2.2.2.2.2.1 x.2.1.1 x.2.1.2.1 x.2.2.1⟩,
  ⟨true, 11, ⟨cat [.one (.val (.int .i64)), .one (.val (.int .i64)), .one (.val (.slice (.st 6))), .one (.val (.slice (.st 3)))] (cat (ds 5) (cat [.one (.ptr 0 0)] (cat (ds 1) (cat [.one (.ref 1), .one (.val (.int .i64)), .one (.val (.int .i64)), .one (.ptr 2 0), .one (.ptr 3 0), .one (.val (.int .i64))] (ds 52))))), [.var [.val (.int .u64), .val (.int .u64)], .arr (.st 3), .var [.val (.int .u64), .val (.int .u64)], .var [.val (.int .u64), .val (.int .u64)]], false⟩, fun k x => steepleref22_Mask.l11 k x.1.1 x.1.2.1 x.1.2.2.1 x.1.2.2.2.1 x.1.2.2.2.2.1 x.1.2.2.2.2.2.1 x.1.2.2.2.2.2.2.1 x.2.1.1 x.2.1.2.1 x.2.2.1 x.2.2.2.1.1 x.2.2.2.1.2.1 x.2.2.2.2.1.1 x.2.2.2.2.1.2.1⟩,
  ⟨false, 15, ⟨cat [.one (.val (.int .i64)), .one (.val (.int .i64)), .one (.val (.slice (.st 6))), .one (.val (.slice (.st 3)))] (cat (ds 5) (cat [.one (.ptr 0 0)] (cat (ds 1) (cat [.one (.ref 1), .one (.val (.int .i64)), .one (.val (.int .i64)), .one (.ptr 2 0), .one (.ptr 3 0), .one (.val (.int .i64))] (ds 52))))), [.var [.val (.int .u64), .val (.int .u64)], .arr (.st 3), .var [.val (.int .u64), .val (.int .u64)], .var [.val (.int .u64), .val (.int .u64)]], false⟩, fun k x => steepleref22_Mask.j15 k x.1.1 x.1.2.1 x.1.2.2.1 x.1.2.2.2.1 x.1.2.2.2.2.1 x.1.2.2.2.2.2.1 x.1.2.2.2.2.2.2.1 x.2.1.1 x.2.1.2.1 x.2.2.1 x.2.2.2.1.1 x.2.2.2.1.2.1 x.2.2.2.2.1.1 x.2.2.2.2.1.2.1⟩,
  ⟨false, 12, ⟨cat [.one (.val (.int .i64)), .one (.val (.int .i64)), .one (.val (.slice (.st 6))), .one (.val (.slice (.st 3)))] (cat (ds 5) (cat [.one (.ptr 0 0)] (cat (ds 1) (cat [.one (.ref 1), .one (.val (.int .i64)), .one (.val (.int .i64)), .one (.ptr 2 0), .one (.ptr 3 0), .one (.val (.int .i64))] (ds 52))))), [.var [.val (.int .u64), .val (.int .u64)], .arr (.st 3), .var [.val (.int .u64), .val (.int .u64)], .var [.val (.int .u64), .val (.int .u64)]], false⟩, fun k x => steepleref22_Mask.j12 k x.1.1 x.1.2.1 x.1.2.2.1 x.1.2.2.2.1 x.1.2.2.2.2.1 x.1.2.2.2.2.2.1 x.1.2.2.2.2.2.2.1 x.2.1.1 x.2.1.2.1 x.2.2.1 x.2.2.2.1.1 x.2.2.2.1.2.1 x.2.2.2.2.1.1 x.2.2.2.2.1.2.1⟩]
theorem steepleref22_Mask.ok (k : Nat) : Okf (XR E) Try.prog 38 (steepleref22_Mask.sig k) := ⟨fn_ok (C := fun k => tab.ctx fun f => lk f (steepleref22_Mask.calls k)) (fun k => tie _) k (fun j hj => calls_ok (kc (steepleref15_Two.ok j) (kc (steepleref18_SignAt.ok j) (kc (steepleref02_Product.ok j) (kc (steepleref02_Add.ok j) (kn)))))) 400 Try.func38 (body := steepleref22_Mask.body) (res := [.tmp 10]) rfl (by kernel_rfl) steepleref22_Mask.cuts (kc ⟨by kernel_rfl, rfl, fun _ => rfl, fun _ _ => by kernel_rfl⟩ (kc ⟨by kernel_rfl, rfl, fun _ => rfl, fun _ _ => by kernel_rfl⟩ (kc ⟨by kernel_rfl, rfl, fun _ => rfl, fun _ _ => by kernel_rfl⟩ (kc ⟨by kernel_rfl, rfl, fun _ => rfl, fun _ _ => by kernel_rfl⟩ (kc ⟨by kernel_rfl, rfl, fun _ => rfl, fun _ _ => by kernel_rfl⟩ (kn)))))) (fun x => by kernel_rfl), _, Try.func38, by kernel_rfl, by kernel_rfl⟩
/-! ### steeple/steeplelaw01.Same: function 37 -/
def steeplelaw01_Same.l4 : Nat → List S30 → List S40 → Int → Option Bool
  | 0, _, _, _ => none
  | k + 1, x0, x1, x2 => if x2 < (x0.length : Int) then (if 0 ≤ x2 then (if x2 < (x0.length : Int) then (if 0 ≤ x2 then (if x2 < (x1.length : Int) then (if (rd30 x0 x2).f0 = (rd40 x1 x2).f0 ∧ (rd30 x0 x2).f1 = (rd40 x1 x2).f1 then steeplelaw01_Same.l4 k x0 x1 (wrap64 (x2 + 1)) else some false) else none) else none) else none) else none) else some true
def steeplelaw01_Same.f (k : Nat) (a0 : List S30) (a1 : List S40) : Option Bool := if (a0.length : Int) = (a1.length : Int) then steeplelaw01_Same.l4 k a0 a1 0 else some false
def steeplelaw01_Same.sig (k : Nat) : Sig E.toTys := ⟨[.slice (.st 1), .slice (.st 3)], [(false, .bool)], none, fun x => f k x.1 x.2.1⟩
noncomputable def steeplelaw01_Same.body : Code := Try.f37.body.getD .skip
def steeplelaw01_Same.calls (k : Nat) : List (Nat × Sig E.toTys) := []
def steeplelaw01_Same.cuts : List (Cut E (RT E.toTys [(false, .bool)])) := [⟨true, 4, ⟨cat [.one (.val (.slice (.st 1))), .one (.val (.slice (.st 3)))] (cat (ds 3) (cat [.one (.val (.int .i64))] (ds 20))), [], false⟩, fun k x => steeplelaw01_Same.l4 k x.1.1 x.1.2.1 x.1.2.2.1⟩]
theorem steeplelaw01_Same.ok (k : Nat) : Okf (XR E) Try.prog 37 (steeplelaw01_Same.sig k) := ⟨fn_ok (C := fun k => tab.ctx fun f => lk f (steeplelaw01_Same.calls k)) (fun k => tie _) k (fun j hj => calls_ok (kn)) 400 Try.func37 (body := steeplelaw01_Same.body) (res := [.tmp 4]) rfl (by kernel_rfl) steeplelaw01_Same.cuts (kc ⟨by kernel_rfl, rfl, fun _ => rfl, fun _ _ => by kernel_rfl⟩ (kn)) (fun x => by kernel_rfl), _, Try.func37, by kernel_rfl, by kernel_rfl⟩
/-! ### steeple/steeplelaw22.ClaimMasks: function 8 -/
def steeplelaw22_ClaimMasks.j9 : Nat → Int → List S30 → Int → Int → Int → Int → Int → List S59 → List S30 → Int → Int → List S68 → List S40 → List S30 → Int → Int → Option Bool
  | 0, _, _, _, _, _, _, _, _, _, _, _, _, _, _, _, _ => none
  | k + 1, x0, x1, x2, x3, x4, x5, x6, _, _, x9, x10, x11, x12, x13, x14, x15 => if x2 = x4 then (if x2 = 0 then ((steepleref22_Mask.f k x5 x6 x11 x12 (⟨x9, x10⟩ : S40)).bind fun r9 => (steeplelaw01_Same.f k x13 r9).bind fun r10 => if (!r10) = true then some false else if (x1.length : Int) = wrap64 (x6 + x5) then ((steeplelaw01_Ref.f k x1).bind fun r11 => (steepleref06_All.f k x0 r11).bind fun r12 => if (!r12) = true then ((steeplelaw22_awake.f k).bind fun r13 => if r13 = true then (if x3 = 5 then some (decide (x14 = 0 ∧ x15 = 0)) else some false) else some false) else (steeplelaw22_awake.f k).bind fun r14 => if r14 = true then (if x3 = 0 then ((steeplelaw01_Ref.f k x13).bind fun r15 => (steeplelaw01_Ref.f k x1).bind fun r16 => (steepleref15_Value.f k r15 r16).bind fun r17 => some (decide (x14 = r17.f0 ∧ x15 = r17.f1))) else some false) else some false) else (steeplelaw22_awake.f k).bind fun r18 => if r18 = true then (if x3 = 6 then some (decide (x14 = 0 ∧ x15 = 0)) else some false) else some false) else (steeplelaw22_awake.f k).bind fun r19 => if r19 = true then (if x3 = x2 then (if (x13.length : Int) = 0 then some (decide (x14 = 0 ∧ x15 = 0)) else some false) else some false) else some false) else some false
def steeplelaw22_ClaimMasks.f (k : Nat) (a0 : Int) (a1 : S46) (a2 : List S30) : Option Bool := (steeplelaw22_Few.f k a1).bind fun r0 => if (!r0) = true then ((steeplelaw22_awake.f k).bind fun r1 => some r1) else if (a2.length : Int) > 8 then ((steeplelaw22_awake.f k).bind fun r2 => some r2) else (steeplelaw22_Ref.f k a1.f2).bind fun r3 => (steeplelaw01_Ref.f k a1.f3).bind fun r4 => (claim_Mask.f k a0 a1.f0 a1.f1 a1.f2 a1.f3 a1.f4).bind fun r5 => (claim_At.f k a0 a1.f0 a1.f1 a1.f2 a1.f3 a1.f4 a2).bind fun r6 => (steepleref22_May.f k a0 a1.f0 a1.f1 r3 r4).bind fun r7 => if r7 = 0 then ((steepleref01_Of.f k a0 (⟨a1.f4.f0, a1.f4.f1⟩ : S40)).bind fun r8 => if (!r8) = true then steeplelaw22_ClaimMasks.j9 k a0 a2 r5.2 r6.2 5 a1.f0 a1.f1 a1.f2 a1.f3 a1.f4.f0 a1.f4.f1 r3 r4 r5.1 r6.1.f0 r6.1.f1 else steeplelaw22_ClaimMasks.j9 k a0 a2 r5.2 r6.2 r7 a1.f0 a1.f1 a1.f2 a1.f3 a1.f4.f0 a1.f4.f1 r3 r4 r5.1 r6.1.f0 r6.1.f1) else steeplelaw22_ClaimMasks.j9 k a0 a2 r5.2 r6.2 r7 a1.f0 a1.f1 a1.f2 a1.f3 a1.f4.f0 a1.f4.f1 r3 r4 r5.1 r6.1.f0 r6.1.f1
def steeplelaw22_ClaimMasks.sig (k : Nat) : Sig E.toTys := ⟨[.int .i64, .st 5, .slice (.st 1)], [(false, .bool)], none, fun x => f k x.1 x.2.1 x.2.2.1⟩
noncomputable def steeplelaw22_ClaimMasks.body : Code := Try.f8.body.getD .skip
def steeplelaw22_ClaimMasks.calls (k : Nat) : List (Nat × Sig E.toTys) := [(20, steeplelaw22_Few.sig k), (21, steeplelaw22_awake.sig k), (24, steeplelaw22_Ref.sig k), (16, steeplelaw01_Ref.sig k), (34, claim_Mask.sig k), (36, claim_At.sig k), (32, steepleref22_May.sig k), (28, steepleref01_Of.sig k), (38, steepleref22_Mask.sig k), (37, steeplelaw01_Same.sig k), (27, steepleref06_All.sig k), (39, steepleref15_Value.sig k)]
def steeplelaw22_ClaimMasks.cuts : List (Cut E (RT E.toTys [(false, .bool)])) := [⟨false, 9, ⟨cat [.one (.val (.int .i64))] (cat (ds 1) (cat [.one (.val (.slice (.st 1)))] (cat (ds 1) (cat [.one (.ptr 0 0)] (cat (ds 2) (cat [.one (.ref 1), .one (.ref 2), .one (.ref 3), .one (.val (.int .i64)), .one (.ptr 4 0), .one (.val (.int .i64)), .one (.val (.int .i64))] (ds 143))))))), [.var [.val (.int .i64), .val (.int .i64), .val (.slice (.st 4)), .val (.slice (.st 1)), .val (.int .u64), .val (.int .u64)], .arr (.st 6), .arr (.st 3), .arr (.st 1), .var [.val (.int .u64), .val (.int .u64)]], false⟩, fun k x => steeplelaw22_ClaimMasks.j9 k x.1.1 x.1.2.1 x.1.2.2.1 x.1.2.2.2.1 x.1.2.2.2.2.1 x.2.1.1 x.2.1.2.1 x.2.1.2.2.1 x.2.1.2.2.2.1 x.2.1.2.2.2.2.1 x.2.1.2.2.2.2.2.1 x.2.2.1 x.2.2.2.1 x.2.2.2.2.1 x.2.2.2.2.2.1.1 x.2.2.2.2.2.1.2.1⟩]
theorem steeplelaw22_ClaimMasks.ok (k : Nat) : Okf (XR E) Try.prog 8 (steeplelaw22_ClaimMasks.sig k) := ⟨fn_ok (C := fun k => tab.ctx fun f => lk f (steeplelaw22_ClaimMasks.calls k)) (fun k => tie _) k (fun j hj => calls_ok (kc (steeplelaw22_Few.ok j) (kc (steeplelaw22_awake.ok j) (kc (steeplelaw22_Ref.ok j) (kc (steeplelaw01_Ref.ok j) (kc (claim_Mask.ok j) (kc (claim_At.ok j) (kc (steepleref22_May.ok j) (kc (steepleref01_Of.ok j) (kc (steepleref22_Mask.ok j) (kc (steeplelaw01_Same.ok j) (kc (steepleref06_All.ok j) (kc (steepleref15_Value.ok j) (kn)))))))))))))) 400 Try.func8 (body := steeplelaw22_ClaimMasks.body) (res := [.tmp 6]) rfl (by kernel_rfl) steeplelaw22_ClaimMasks.cuts (kc ⟨by kernel_rfl, rfl, fun _ => rfl, fun _ _ => by kernel_rfl⟩ (kn)) (fun x => by kernel_rfl), _, Try.func8, by kernel_rfl, by kernel_rfl⟩
/-! ### steeple/cube.Log: function 79 -/
def cube_Log.l2 : Nat → Int → Int → Option Int
  | 0, _, _ => none
  | k + 1, x0, x1 => if x1 < 17 then (if 0 ≤ x1 then (if x0 = shl .i64 1 x1 then some x1 else cube_Log.l2 k x0 (wrap64 (x1 + 1))) else none) else some (-1)
def cube_Log.f (k : Nat) (a0 : Int) : Option Int := cube_Log.l2 k a0 0
def cube_Log.sig (k : Nat) : Sig E.toTys := ⟨[.int .i64], [(false, .int .i64)], none, fun x => f k x.1⟩
noncomputable def cube_Log.body : Code := Try.f79.body.getD .skip
def cube_Log.calls (k : Nat) : List (Nat × Sig E.toTys) := []
def cube_Log.cuts : List (Cut E (RT E.toTys [(false, .int .i64)])) := [⟨true, 2, ⟨cat [.one (.val (.int .i64))] (cat (ds 3) (cat [.one (.val (.int .i64))] (ds 8))), [], false⟩, fun k x => cube_Log.l2 k x.1.1 x.1.2.1⟩]
theorem cube_Log.ok (k : Nat) : Okf (XR E) Try.prog 79 (cube_Log.sig k) := ⟨fn_ok (C := fun k => tab.ctx fun f => lk f (cube_Log.calls k)) (fun k => tie _) k (fun j hj => calls_ok (kn)) 400 Try.func79 (body := cube_Log.body) (res := [.tmp 2]) rfl (by kernel_rfl) cube_Log.cuts (kc ⟨by kernel_rfl, rfl, fun _ => rfl, fun _ _ => by kernel_rfl⟩ (kn)) (fun x => by kernel_rfl), _, Try.func79, by kernel_rfl, by kernel_rfl⟩
/-! ### steeple/ring.ask: function 78 -/
def ring_ask.f (k : Nat) (a0 : Int) (a1 : List Bool) : Option Int := (octet_Wide.f k a0).bind fun r0 => if r0 = 0 then some 1 else (cube_Log.f k (a1.length : Int)).bind fun r1 => if r1 < a0 then some 6 else if r1 > 12 then some 6 else some 0
def ring_ask.sig (k : Nat) : Sig E.toTys := ⟨[.int .i64, .slice .bool], [(false, .int .i64)], none, fun x => f k x.1 x.2.1⟩
noncomputable def ring_ask.body : Code := Try.f78.body.getD .skip
def ring_ask.calls (k : Nat) : List (Nat × Sig E.toTys) := [(58, octet_Wide.sig k), (79, cube_Log.sig k)]
def ring_ask.cuts : List (Cut E (RT E.toTys [(false, .int .i64)])) := []
theorem ring_ask.ok (k : Nat) : Okf (XR E) Try.prog 78 (ring_ask.sig k) := ⟨fn_ok (C := fun k => tab.ctx fun f => lk f (ring_ask.calls k)) (fun k => tie _) k (fun j hj => calls_ok (kc (octet_Wide.ok j) (kc (cube_Log.ok j) (kn)))) 400 Try.func78 (body := ring_ask.body) (res := [.tmp 4]) rfl (by kernel_rfl) ring_ask.cuts (kn) (fun x => by kernel_rfl), _, Try.func78, by kernel_rfl, by kernel_rfl⟩
/-! ### steeple/ring.of$1: function 102 -/
def ring_of_1.f (k : Nat) (a0 : S30) (a1 : Option Int) : Option Bool := (match a1 with | none => none | some r0 => (octet_Of.f k r0 a0).bind fun r1 => some (!r1))
def ring_of_1.sig (k : Nat) : Sig E.toTys := ⟨[.st 1, .ptr (.int .i64)], [(false, .bool)], none, fun x => f k x.1 x.2.1⟩
noncomputable def ring_of_1.body : Code := Try.f102.body.getD .skip
def ring_of_1.calls (k : Nat) : List (Nat × Sig E.toTys) := [(70, octet_Of.sig k)]
def ring_of_1.cuts : List (Cut E (RT E.toTys [(false, .bool)])) := []
theorem ring_of_1.ok (k : Nat) : Okf (XR E) Try.prog 102 (ring_of_1.sig k) := ⟨fn_ok (C := fun k => tab.ctx fun f => lk f (ring_of_1.calls k)) (fun k => tie _) k (fun j hj => calls_ok (kc (octet_Of.ok j) (kn))) 400 Try.func102 (body := ring_of_1.body) (res := [.tmp 3]) rfl (by kernel_rfl) ring_of_1.cuts (kn) (fun x => by kernel_rfl), _, Try.func102, by kernel_rfl, by kernel_rfl⟩
/-! ### slices.IndexFunc: function 115 -/
def slices_IndexFunc115_c102.l2 : Nat → List S30 → Int → Int → Int → Option Int
  | 0, _, _, _, _ => none
  | k + 1, x0, x1, x2, x3 => if x3 < x2 then (if 0 ≤ x3 then (if x3 < (x0.length : Int) then ((ring_of_1.f k (rd30 x0 x3) (some x1)).bind fun r0 => if r0 = true then some x3 else slices_IndexFunc115_c102.l2 k x0 x1 x2 (wrap64 (x3 + 1))) else none) else none) else some (-1)
def slices_IndexFunc115_c102.f (k : Nat) (a0 : List S30) (a1 : Int) : Option Int := slices_IndexFunc115_c102.l2 k a0 a1 (a0.length : Int) 0
def slices_IndexFunc115_c102.sig (k : Nat) : Sig E.toTys := ⟨[.slice (.st 1), .ext 102 (.int .i64)], [(false, .int .i64)], none, fun x => f k x.1 x.2.1⟩
noncomputable def slices_IndexFunc115_c102.body : Code := Try.f115.body.getD .skip
def slices_IndexFunc115_c102.calls (k : Nat) : List (Nat × Sig E.toTys) := [(102, ring_of_1.sig k)]
def slices_IndexFunc115_c102.cuts : List (Cut E (RT E.toTys [(false, .int .i64)])) := [⟨true, 2, ⟨cat [.one (.val (.slice (.st 1))), .one (.val (.ext 102 (.int .i64)))] (cat (ds 5) (cat [.one (.val (.int .i64)), .one (.val (.int .i64))] (ds 10))), [], false⟩, fun k x => slices_IndexFunc115_c102.l2 k x.1.1 x.1.2.1 x.1.2.2.1 x.1.2.2.2.1⟩]
theorem slices_IndexFunc115_c102.ok (k : Nat) : Okf (XR E) Try.prog 115 (slices_IndexFunc115_c102.sig k) := ⟨fn_ok (C := fun k => tab.ctx fun f => lk f (slices_IndexFunc115_c102.calls k)) (fun k => tie _) k (fun j hj => calls_ok (kc (ring_of_1.ok j) (kn))) 400 Try.func115 (body := slices_IndexFunc115_c102.body) (res := [.tmp 4]) rfl (by kernel_rfl) slices_IndexFunc115_c102.cuts (kc ⟨by kernel_rfl, rfl, fun _ => rfl, fun _ _ => by kernel_rfl⟩ (kn)) (fun x => by kernel_rfl), _, Try.func115, by kernel_rfl, by kernel_rfl⟩
/-! ### slices.ContainsFunc: function 90 -/
def slices_ContainsFunc90_c102.f (k : Nat) (a0 : List S30) (a1 : Int) : Option Bool := (slices_IndexFunc115_c102.f k a0 a1).bind fun r0 => some (decide (r0 ≥ 0))
def slices_ContainsFunc90_c102.sig (k : Nat) : Sig E.toTys := ⟨[.slice (.st 1), .ext 102 (.int .i64)], [(false, .bool)], none, fun x => f k x.1 x.2.1⟩
noncomputable def slices_ContainsFunc90_c102.body : Code := Try.f90.body.getD .skip
def slices_ContainsFunc90_c102.calls (k : Nat) : List (Nat × Sig E.toTys) := [(115, slices_IndexFunc115_c102.sig k)]
def slices_ContainsFunc90_c102.cuts : List (Cut E (RT E.toTys [(false, .bool)])) := []
theorem slices_ContainsFunc90_c102.ok (k : Nat) : Okf (XR E) Try.prog 90 (slices_ContainsFunc90_c102.sig k) := ⟨fn_ok (C := fun k => tab.ctx fun f => lk f (slices_ContainsFunc90_c102.calls k)) (fun k => tie _) k (fun j hj => calls_ok (kc (slices_IndexFunc115_c102.ok j) (kn))) 400 Try.func90 (body := slices_ContainsFunc90_c102.body) (res := [.tmp 4]) rfl (by kernel_rfl) slices_ContainsFunc90_c102.cuts (kn) (fun x => by kernel_rfl), _, Try.func90, by kernel_rfl, by kernel_rfl⟩
/-! ### steeple/ring.of: function 80 -/
def ring_of.f (k : Nat) (a0 : Int) (a1 : List S30) : Option Bool := (slices_ContainsFunc90_c102.f k a1 a0).bind fun r0 => some (!r0)
def ring_of.sig (k : Nat) : Sig E.toTys := ⟨[.int .i64, .slice (.st 1)], [(false, .bool)], none, fun x => f k x.1 x.2.1⟩
noncomputable def ring_of.body : Code := Try.f80.body.getD .skip
def ring_of.calls (k : Nat) : List (Nat × Sig E.toTys) := [(90, slices_ContainsFunc90_c102.sig k)]
def ring_of.cuts : List (Cut E (RT E.toTys [(false, .bool)])) := []
theorem ring_of.ok (k : Nat) : Okf (XR E) Try.prog 80 (ring_of.sig k) := ⟨fn_ok (C := fun k => tab.ctx fun f => lk f (ring_of.calls k)) (fun k => tie _) k (fun j hj => calls_ok (kc (slices_ContainsFunc90_c102.ok j) (kn))) 400 Try.func80 (body := ring_of.body) (res := [.tmp 4]) rfl (by kernel_rfl) ring_of.cuts (kn) (fun x => by kernel_rfl), _, Try.func80, by kernel_rfl, by kernel_rfl⟩
/-! ### steeple/ring.Parts: function 41 -/
mutual
def ring_Parts.l10 : Nat → Int → List Bool → Int → Int → List S30 → List S30 → Option ((List S30) × Int)
  | 0, _, _, _, _, _, _ => none
  | k + 1, x0, x1, x2, x3, x4, x5 => if x3 < x2 then (if 0 ≤ x3 then (if x3 < (x5.length : Int) then ring_Parts.l13 k x0 x1 x3 x2 x3 (x4.length : Int) 0 x4 (rd30 x5 x3).f0 (rd30 x5 x3).f1 x5 else none) else none) else some (x4, 0)
def ring_Parts.l13 : Nat → Int → List Bool → Int → Int → Int → Int → Int → List S30 → Int → Int → List S30 → Option ((List S30) × Int)
  | 0, _, _, _, _, _, _, _, _, _, _, _ => none
  | k + 1, x0, x1, x2, x3, x4, x5, x6, x7, x8, x9, x10 => if x6 < x5 then (if 0 ≤ x0 then (if 0 ≤ wrap64 ((shl .i64 x2 x0) + x6) then (if wrap64 ((shl .i64 x2 x0) + x6) < (x1.length : Int) then (if (rdB x1 (wrap64 ((shl .i64 x2 x0) + x6))) = true then (if 0 ≤ x6 then (if x6 < (x7.length : Int) then ((tower_Add.f k (rd30 x7 x6) (⟨x8, x9⟩ : S30)).bind fun r4 => if 0 ≤ x6 then (if x6 < (x7.length : Int) then ring_Parts.l13 k x0 x1 x2 x3 x4 x5 (wrap64 (x6 + 1)) (x7.set (Int.toNat x6) r4) x8 x9 x10 else none) else none) else none) else none) else ring_Parts.l13 k x0 x1 x2 x3 x4 x5 (wrap64 (x6 + 1)) x7 x8 x9 x10) else none) else none) else none) else ring_Parts.l10 k x0 x1 x3 (wrap64 (x4 + 1)) x7 x10
end
def ring_Parts.f (k : Nat) (a0 : Int) (a1 : List Bool) (a2 : List S30) : Option ((List S30) × Int) := (ring_ask.f k a0 a1).bind fun r0 => if r0 = 0 then ((cube_Log.f k (a1.length : Int)).bind fun r1 => if (a2.length : Int) = wrap64 (r1 - a0) then ((ring_of.f k a0 a2).bind fun r2 => if (!r2) = true then some ([], 5) else if 0 ≤ a0 then (if 0 ≤ shl .i64 1 a0 then (if shl .i64 1 a0 ≤ 140737488355328 / ((16 : Nat) : Int) then ((cube_Weights.f k a0 a2).bind fun r3 => ring_Parts.l10 k a0 a1 (r3.length : Int) 0 (List.replicate (Int.toNat (shl .i64 1 a0)) z30) r3) else none) else none) else none) else some ([], 6)) else some ([], r0)
def ring_Parts.sig (k : Nat) : Sig E.toTys := ⟨[.int .i64, .slice .bool, .slice (.st 1)], [(true, .slice (.st 1)), (false, .int .i64)], none, fun x => f k x.1 x.2.1 x.2.2.1⟩
noncomputable def ring_Parts.body : Code := Try.f41.body.getD .skip
def ring_Parts.calls (k : Nat) : List (Nat × Sig E.toTys) := [(78, ring_ask.sig k), (79, cube_Log.sig k), (80, ring_of.sig k), (63, cube_Weights.sig k), (62, tower_Add.sig k)]
def ring_Parts.cuts : List (Cut E (RT E.toTys [(true, .slice (.st 1)), (false, .int .i64)])) := [⟨true, 10, ⟨cat [.one (.val (.int .i64)), .one (.val (.slice .bool))] (cat (ds 7) (cat [.one (.ref 0)] (cat (ds 29) (cat [.one (.ref 1), .one (.val (.int .i64)), .one (.val (.int .i64))] (ds 29))))), [.arr (.st 1), .arr (.st 1)], false⟩, fun k x => ring_Parts.l10 k x.1.1 x.1.2.1 x.1.2.2.1 x.1.2.2.2.1 x.2.1 x.2.2.1⟩,
  ⟨true, 13, ⟨cat [.one (.val (.int .i64)), .one (.val (.slice .bool))] (cat (ds 7) (cat [.one (.ref 0), .one (.val (.int .i64)), .one (.ptr 1 0)] (cat (ds 27) (cat [.one (.ref 2), .one (.val (.int .i64)), .one (.val (.int .i64))] (cat (ds 5) (cat [.one (.val (.int .i64)), .one (.val (.int .i64))] (ds 22))))))), [.arr (.st 1), .var [.val (.int .u64), .val (.int .u64)], .arr (.st 1)], false⟩, fun k x => ring_Parts.l13 k x.1.1 x.1.2.1 x.1.2.2.1 x.1.2.2.2.1 x.1.2.2.2.2.1 x.1.2.2.2.2.2.1 x.1.2.2.2.2.2.2.1 x.2.1 x.2.2.1.1 x.2.2.1.2.1 x.2.2.2.1⟩]
theorem ring_Parts.ok (k : Nat) : Okf (XR E) Try.prog 41 (ring_Parts.sig k) := ⟨fn_ok (C := fun k => tab.ctx fun f => lk f (ring_Parts.calls k)) (fun k => tie _) k (fun j hj => calls_ok (kc (ring_ask.ok j) (kc (cube_Log.ok j) (kc (ring_of.ok j) (kc (cube_Weights.ok j) (kc (tower_Add.ok j) (kn))))))) 400 Try.func41 (body := ring_Parts.body) (res := [.tmp 6, .tmp 7]) rfl (by kernel_rfl) ring_Parts.cuts (kc ⟨by kernel_rfl, rfl, fun _ => rfl, fun _ _ => by kernel_rfl⟩ (kc ⟨by kernel_rfl, rfl, fun _ => rfl, fun _ _ => by kernel_rfl⟩ (kn))) (fun x => by kernel_rfl), _, Try.func41, by kernel_rfl, by kernel_rfl⟩
/-! ### steeple/ring.may: function 81 -/
def ring_may.f (k : Nat) (a0 : Int) (a1 : List S30) (a2 : List S30) : Option Int := (octet_Wide.f k a0).bind fun r0 => if r0 = 0 then some 1 else if 0 ≤ a0 then (if (a1.length : Int) = shl .i64 1 a0 then (if (a2.length : Int) = a0 then ((ring_of.f k a0 a1).bind fun r1 => if (!r1) = true then some 5 else (ring_of.f k a0 a2).bind fun r2 => if (!r2) = true then some 5 else some 0) else some 6) else some 6) else none
def ring_may.sig (k : Nat) : Sig E.toTys := ⟨[.int .i64, .slice (.st 1), .slice (.st 1)], [(false, .int .i64)], none, fun x => f k x.1 x.2.1 x.2.2.1⟩
noncomputable def ring_may.body : Code := Try.f81.body.getD .skip
def ring_may.calls (k : Nat) : List (Nat × Sig E.toTys) := [(58, octet_Wide.sig k), (80, ring_of.sig k)]
def ring_may.cuts : List (Cut E (RT E.toTys [(false, .int .i64)])) := []
theorem ring_may.ok (k : Nat) : Okf (XR E) Try.prog 81 (ring_may.sig k) := ⟨fn_ok (C := fun k => tab.ctx fun f => lk f (ring_may.calls k)) (fun k => tie _) k (fun j hj => calls_ok (kc (octet_Wide.ok j) (kc (ring_of.ok j) (kn)))) 400 Try.func81 (body := ring_may.body) (res := [.tmp 6]) rfl (by kernel_rfl) ring_may.cuts (kn) (fun x => by kernel_rfl), _, Try.func81, by kernel_rfl, by kernel_rfl⟩
/-! ### steeple/ring.Value: function 49 -/
def ring_Value.f (k : Nat) (a0 : Int) (a1 : List S30) (a2 : List S30) : Option (S30 × Int) := (ring_may.f k a0 a1 a2).bind fun r0 => if r0 = 0 then ((cube_Weights.f k a0 a2).bind fun r1 => (tower_Dot.f k a0 r1 a1).bind fun r2 => some (r2, 0)) else some ((⟨0, 0⟩ : S30), r0)
def ring_Value.sig (k : Nat) : Sig E.toTys := ⟨[.int .i64, .slice (.st 1), .slice (.st 1)], [(false, .st 1), (false, .int .i64)], none, fun x => f k x.1 x.2.1 x.2.2.1⟩
noncomputable def ring_Value.body : Code := Try.f49.body.getD .skip
def ring_Value.calls (k : Nat) : List (Nat × Sig E.toTys) := [(81, ring_may.sig k), (63, cube_Weights.sig k), (35, tower_Dot.sig k)]
def ring_Value.cuts : List (Cut E (RT E.toTys [(false, .st 1), (false, .int .i64)])) := []
theorem ring_Value.ok (k : Nat) : Okf (XR E) Try.prog 49 (ring_Value.sig k) := ⟨fn_ok (C := fun k => tab.ctx fun f => lk f (ring_Value.calls k)) (fun k => tie _) k (fun j hj => calls_ok (kc (ring_may.ok j) (kc (cube_Weights.ok j) (kc (tower_Dot.ok j) (kn))))) 400 Try.func49 (body := ring_Value.body) (res := [.cell 6 30, .tmp 7]) rfl (by kernel_rfl) ring_Value.cuts (kn) (fun x => by kernel_rfl), _, Try.func49, by kernel_rfl, by kernel_rfl⟩
/-! ### steeple/ring.mayMask: function 85 -/
def ring_mayMask.f (k : Nat) (a0 : Int) (a1 : List S30) (a2 : List S30) : Option Int := (octet_Wide.f k a0).bind fun r0 => if r0 = 0 then some 1 else if (a1.length : Int) > 12 then some 6 else if (a2.length : Int) = a0 then ((ring_of.f k a0 a1).bind fun r1 => if (!r1) = true then some 5 else (ring_of.f k a0 a2).bind fun r2 => if (!r2) = true then some 5 else some 0) else some 6
def ring_mayMask.sig (k : Nat) : Sig E.toTys := ⟨[.int .i64, .slice (.st 1), .slice (.st 1)], [(false, .int .i64)], none, fun x => f k x.1 x.2.1 x.2.2.1⟩
noncomputable def ring_mayMask.body : Code := Try.f85.body.getD .skip
def ring_mayMask.calls (k : Nat) : List (Nat × Sig E.toTys) := [(58, octet_Wide.sig k), (80, ring_of.sig k)]
def ring_mayMask.cuts : List (Cut E (RT E.toTys [(false, .int .i64)])) := []
theorem ring_mayMask.ok (k : Nat) : Okf (XR E) Try.prog 85 (ring_mayMask.sig k) := ⟨fn_ok (C := fun k => tab.ctx fun f => lk f (ring_mayMask.calls k)) (fun k => tie _) k (fun j hj => calls_ok (kc (octet_Wide.ok j) (kc (ring_of.ok j) (kn)))) 400 Try.func85 (body := ring_mayMask.body) (res := [.tmp 6]) rfl (by kernel_rfl) ring_mayMask.cuts (kn) (fun x => by kernel_rfl), _, Try.func85, by kernel_rfl, by kernel_rfl⟩
/-! ### math/bits.Len64: function 124 -/
mutual
def math_bits_Len64.j7 : Nat → Int → Int → Option Int
  | 0, _, _ => none
  | k + 1, x0, x1 => if x0 ≥ 256 then math_bits_Len64.j10 k (shr .u64 x0 8) (wrap64 (x1 + 8)) else math_bits_Len64.j10 k x0 x1
def math_bits_Len64.j10 : Nat → Int → Int → Option Int
  | 0, _, _ => none
  | k + 1, x0, x1 => if 0 ≤ IntKind.u8.wrap x0 then (if IntKind.u8.wrap x0 < (ByteArray.size by256_793 : Int) then some (wrap64 (x1 + (wrap64 (bt by256_793 (IntKind.u8.wrap x0))))) else none) else none
end
def math_bits_Len64.f (k : Nat) (a0 : Int) : Option Int := if a0 ≥ 4294967296 then (if shr .u64 a0 32 ≥ 65536 then math_bits_Len64.j7 k (shr .u64 (shr .u64 a0 32) 16) (wrap64 ((32 : Int) + 16)) else math_bits_Len64.j7 k (shr .u64 a0 32) 32) else if a0 ≥ 65536 then math_bits_Len64.j7 k (shr .u64 a0 16) (wrap64 ((0 : Int) + 16)) else math_bits_Len64.j7 k a0 0
def math_bits_Len64.sig (k : Nat) : Sig E.toTys := ⟨[.int .u64], [(false, .int .i64)], none, fun x => f k x.1⟩
noncomputable def math_bits_Len64.body : Code := Try.f124.body.getD .skip
def math_bits_Len64.calls (k : Nat) : List (Nat × Sig E.toTys) := []
def math_bits_Len64.cuts : List (Cut E (RT E.toTys [(false, .int .i64)])) := [⟨false, 7, ⟨cat [.one (.val (.int .u64))] (cat (ds 1) (cat [.one (.val (.int .i64))] (ds 22))), [], false⟩, fun k x => math_bits_Len64.j7 k x.1.1 x.1.2.1⟩,
  ⟨false, 10, ⟨cat [.one (.val (.int .u64))] (cat (ds 1) (cat [.one (.val (.int .i64))] (ds 22))), [], false⟩, fun k x => math_bits_Len64.j10 k x.1.1 x.1.2.1⟩]
theorem math_bits_Len64.ok (k : Nat) : Okf (XR E) Try.prog 124 (math_bits_Len64.sig k) := ⟨fn_ok (C := fun k => tab.ctx fun f => lk f (math_bits_Len64.calls k)) (fun k => tie _) k (fun j hj => calls_ok (kn)) 400 Try.func124 (body := math_bits_Len64.body) (res := [.tmp 2]) rfl (by kernel_rfl) math_bits_Len64.cuts (kc ⟨by kernel_rfl, rfl, fun _ => rfl, fun _ _ => by kernel_rfl⟩ (kc ⟨by kernel_rfl, rfl, fun _ => rfl, fun _ _ => by kernel_rfl⟩ (kn))) (fun x => by kernel_rfl), _, Try.func124, by kernel_rfl, by kernel_rfl⟩
end Go.Proofs.Ytnjaocdgjaaffaa.B
namespace Go.Proofs.Ytnjaocdgjaaffaa.B
open Go.Proofs.Ytnjaocdgjaaffaa.V.B Go.RowKit
set_option linter.unusedVariables false
/-! ### steeple/span.lead: function 107 -/
def span_lead.f (k : Nat) (a0 : S30) : Option Int := if a0.f0 = 0 then ((math_bits_Len64.f k a0.f1).bind fun r0 => some (wrap64 (r0 - 1))) else (math_bits_Len64.f k a0.f0).bind fun r1 => some (wrap64 (63 + r1))
def span_lead.sig (k : Nat) : Sig E.toTys := ⟨[.st 1], [(false, .int .i64)], none, fun x => f k x.1⟩
noncomputable def span_lead.body : Code := Try.f107.body.getD .skip
def span_lead.calls (k : Nat) : List (Nat × Sig E.toTys) := [(124, math_bits_Len64.sig k)]
def span_lead.cuts : List (Cut E (RT E.toTys [(false, .int .i64)])) := []
theorem span_lead.ok (k : Nat) : Okf (XR E) Try.prog 107 (span_lead.sig k) := ⟨fn_ok (C := fun k => tab.ctx fun f => lk f (span_lead.calls k)) (fun k => tie _) k (fun j hj => calls_ok (kc (math_bits_Len64.ok j) (kn))) 400 Try.func107 (body := span_lead.body) (res := [.tmp 2]) rfl (by kernel_rfl) span_lead.cuts (kn) (fun x => by kernel_rfl), _, Try.func107, by kernel_rfl, by kernel_rfl⟩
/-! ### steeple/tower.Bit: function 105 -/
mutual
def tower_Bit.j3 : Nat → Int → Int → Int → Option S30
  | 0, _, _, _ => none
  | k + 1, x0, x1, x2 => if x0 ≥ 64 then (if x0 < 128 then (if 0 ≤ wrap64 (x0 - 64) then some (⟨shl .u64 1 (wrap64 (x0 - 64)), 0⟩ : S30) else none) else tower_Bit.j5 k x1 x2) else tower_Bit.j5 k x1 x2
def tower_Bit.j5 : Nat → Int → Int → Option S30
  | 0, _, _ => none
  | k + 1, _, _ => some (⟨0, 0⟩ : S30)
end
def tower_Bit.f (k : Nat) (a0 : Int) : Option S30 := if a0 ≥ 0 then (if a0 < 64 then (if 0 ≤ a0 then some (⟨0, shl .u64 1 a0⟩ : S30) else none) else tower_Bit.j3 k a0 0 0) else tower_Bit.j3 k a0 0 0
def tower_Bit.sig (k : Nat) : Sig E.toTys := ⟨[.int .i64], [(false, .st 1)], none, fun x => f k x.1⟩
noncomputable def tower_Bit.body : Code := Try.f105.body.getD .skip
def tower_Bit.calls (k : Nat) : List (Nat × Sig E.toTys) := []
def tower_Bit.cuts : List (Cut E (RT E.toTys [(false, .st 1)])) := [⟨false, 3, ⟨cat [.one (.val (.int .i64))] (cat (ds 1) (cat [.one (.ptr 0 0)] (ds 22))), [.var [.val (.int .u64), .val (.int .u64)]], false⟩, fun k x => tower_Bit.j3 k x.1.1 x.2.1.1 x.2.1.2.1⟩,
  ⟨false, 5, ⟨cat (ds 2) (cat [.one (.ptr 0 0)] (ds 22)), [.var [.val (.int .u64), .val (.int .u64)]], false⟩, fun k x => tower_Bit.j5 k x.2.1.1 x.2.1.2.1⟩]
theorem tower_Bit.ok (k : Nat) : Okf (XR E) Try.prog 105 (tower_Bit.sig k) := ⟨fn_ok (C := fun k => tab.ctx fun f => lk f (tower_Bit.calls k)) (fun k => tie _) k (fun j hj => calls_ok (kn)) 400 Try.func105 (body := tower_Bit.body) (res := [.cell 2 30]) rfl (by kernel_rfl) tower_Bit.cuts (kc ⟨by kernel_rfl, rfl, fun _ => rfl, fun _ _ => by kernel_rfl⟩ (kc ⟨by kernel_rfl, rfl, fun _ => rfl, fun _ _ => by kernel_rfl⟩ (kn))) (fun x => by kernel_rfl), _, Try.func105, by kernel_rfl, by kernel_rfl⟩
/-! ### steeple/span.has: function 104 -/
def span_has.f (k : Nat) (a0 : S30) (a1 : Int) : Option Bool := (tower_Bit.f k a1).bind fun r0 => some (!decide (bits .or .u64 (bits .and .u64 a0.f1 r0.f1) (bits .and .u64 a0.f0 r0.f0) = 0))
def span_has.sig (k : Nat) : Sig E.toTys := ⟨[.st 1, .int .i64], [(false, .bool)], none, fun x => f k x.1 x.2.1⟩
noncomputable def span_has.body : Code := Try.f104.body.getD .skip
def span_has.calls (k : Nat) : List (Nat × Sig E.toTys) := [(105, tower_Bit.sig k)]
def span_has.cuts : List (Cut E (RT E.toTys [(false, .bool)])) := []
theorem span_has.ok (k : Nat) : Okf (XR E) Try.prog 104 (span_has.sig k) := ⟨fn_ok (C := fun k => tab.ctx fun f => lk f (span_has.calls k)) (fun k => tie _) k (fun j hj => calls_ok (kc (tower_Bit.ok j) (kn))) 400 Try.func104 (body := span_has.body) (res := [.tmp 4]) rfl (by kernel_rfl) span_has.cuts (kn) (fun x => by kernel_rfl), _, Try.func104, by kernel_rfl, by kernel_rfl⟩
/-! ### steeple/span.make1: function 108 -/
def span_make1.l3 : Nat → List S30 → Int → Int → Int → Int → Int → Int → Int → Int → Option S30
  | 0, _, _, _, _, _, _, _, _, _ => none
  | k + 1, x0, x1, x2, x3, x4, x5, x6, x7, x8 => if x2 < x1 then (if 0 ≤ x2 then (if x2 < (x0.length : Int) then ((span_has.f k (⟨x3, x4⟩ : S30) x2).bind fun r0 => if r0 = true then ((tower_Add.f k (⟨x7, x8⟩ : S30) (rd30 x0 x2)).bind fun r1 => span_make1.l3 k x0 x1 (wrap64 (x2 + 1)) x3 x4 x5 x6 r1.f0 r1.f1) else span_make1.l3 k x0 x1 (wrap64 (x2 + 1)) x3 x4 x5 x6 x7 x8) else none) else none) else some (⟨x7, x8⟩ : S30)
def span_make1.f (k : Nat) (a0 : List S30) (a1 : S30) : Option S30 := span_make1.l3 k a0 (a0.length : Int) 0 a1.f0 a1.f1 0 0 0 0
def span_make1.sig (k : Nat) : Sig E.toTys := ⟨[.slice (.st 1), .st 1], [(false, .st 1)], none, fun x => f k x.1 x.2.1⟩
noncomputable def span_make1.body : Code := Try.f108.body.getD .skip
def span_make1.calls (k : Nat) : List (Nat × Sig E.toTys) := [(104, span_has.sig k), (62, tower_Add.sig k)]
def span_make1.cuts : List (Cut E (RT E.toTys [(false, .st 1)])) := [⟨true, 3, ⟨cat (ds 3) (cat [.one (.ptr 0 0), .one (.ptr 1 0), .one (.ptr 2 0)] (cat (ds 2) (cat [.one (.val (.slice (.st 1))), .one (.val (.int .i64)), .one (.val (.int .i64))] (ds 12)))), [.var [.val (.int .u64), .val (.int .u64)], .var [.val (.int .u64), .val (.int .u64)], .var [.val (.int .u64), .val (.int .u64)]], false⟩, fun k x => span_make1.l3 k x.1.1 x.1.2.1 x.1.2.2.1 x.2.1.1 x.2.1.2.1 x.2.2.1.1 x.2.2.1.2.1 x.2.2.2.1.1 x.2.2.2.1.2.1⟩]
theorem span_make1.ok (k : Nat) : Okf (XR E) Try.prog 108 (span_make1.sig k) := ⟨fn_ok (C := fun k => tab.ctx fun f => lk f (span_make1.calls k)) (fun k => tie _) k (fun j hj => calls_ok (kc (span_has.ok j) (kc (tower_Add.ok j) (kn)))) 400 Try.func108 (body := span_make1.body) (res := [.cell 4 30]) rfl (by kernel_rfl) span_make1.cuts (kc ⟨by kernel_rfl, rfl, fun _ => rfl, fun _ _ => by kernel_rfl⟩ (kn)) (fun x => by kernel_rfl), _, Try.func108, by kernel_rfl, by kernel_rfl⟩
/-! ### steeple/span.Apply: function 86 -/
def span_Apply.f (k : Nat) (a0 : List S30) (a1 : S30) : Option (S30 × Int) := if (a0.length : Int) > 128 then some ((⟨0, 0⟩ : S30), 1) else (span_lead.f k a1).bind fun r0 => if r0 ≥ (a0.length : Int) then some ((⟨0, 0⟩ : S30), 6) else (span_make1.f k a0 a1).bind fun r1 => some (r1, 0)
def span_Apply.sig (k : Nat) : Sig E.toTys := ⟨[.slice (.st 1), .st 1], [(false, .st 1), (false, .int .i64)], none, fun x => f k x.1 x.2.1⟩
noncomputable def span_Apply.body : Code := Try.f86.body.getD .skip
def span_Apply.calls (k : Nat) : List (Nat × Sig E.toTys) := [(107, span_lead.sig k), (108, span_make1.sig k)]
def span_Apply.cuts : List (Cut E (RT E.toTys [(false, .st 1), (false, .int .i64)])) := []
theorem span_Apply.ok (k : Nat) : Okf (XR E) Try.prog 86 (span_Apply.sig k) := ⟨fn_ok (C := fun k => tab.ctx fun f => lk f (span_Apply.calls k)) (fun k => tie _) k (fun j hj => calls_ok (kc (span_lead.ok j) (kc (span_make1.ok j) (kn)))) 400 Try.func86 (body := span_Apply.body) (res := [.cell 4 30, .tmp 5]) rfl (by kernel_rfl) span_Apply.cuts (kn) (fun x => by kernel_rfl), _, Try.func86, by kernel_rfl, by kernel_rfl⟩
/-! ### steeple/ring.Mask: function 51 -/
def ring_Mask.l7 : Nat → Int → Int → List S30 → List S30 → List S30 → Option ((List S30) × Int)
  | 0, _, _, _, _, _ => none
  | k + 1, x0, x1, x2, x3, x4 => if x1 < x0 then (if 0 ≤ x1 then (if x1 < (x3.length : Int) then ((span_Apply.f k x2 (rd30 x3 x1)).bind fun r3 => if x4.length + [r3.1].length ≤ 140737488355328 / 16 then ring_Mask.l7 k x0 (wrap64 (x1 + 1)) x2 x3 (x4 ++ [r3.1]) else none) else none) else none) else some (x4, 0)
def ring_Mask.f (k : Nat) (a0 : Int) (a1 : List S30) (a2 : List S30) : Option ((List S30) × Int) := (ring_mayMask.f k a0 a1 a2).bind fun r0 => if r0 = 0 then ((cube_Weights.f k a0 a2).bind fun r1 => (cube_Weights.f k a0 a1).bind fun r2 => ring_Mask.l7 k (r2.length : Int) 0 r1 r2 []) else some ([], r0)
def ring_Mask.sig (k : Nat) : Sig E.toTys := ⟨[.int .i64, .slice (.st 1), .slice (.st 1)], [(true, .slice (.st 1)), (false, .int .i64)], none, fun x => f k x.1 x.2.1 x.2.2.1⟩
noncomputable def ring_Mask.body : Code := Try.f51.body.getD .skip
def ring_Mask.calls (k : Nat) : List (Nat × Sig E.toTys) := [(85, ring_mayMask.sig k), (63, cube_Weights.sig k), (86, span_Apply.sig k)]
def ring_Mask.cuts : List (Cut E (RT E.toTys [(true, .slice (.st 1)), (false, .int .i64)])) := [⟨true, 7, ⟨cat (ds 9) (cat [.one (.ref 0), .one (.ref 2)] (cat (ds 16) (cat [.one (.ref 1), .one (.val (.int .i64)), .one (.val (.int .i64))] (ds 15)))), [.arr (.st 1), .arr (.st 1), .arr (.st 1)], false⟩, fun k x => ring_Mask.l7 k x.1.1 x.1.2.1 x.2.1 x.2.2.1 x.2.2.2.1⟩]
theorem ring_Mask.ok (k : Nat) : Okf (XR E) Try.prog 51 (ring_Mask.sig k) := ⟨fn_ok (C := fun k => tab.ctx fun f => lk f (ring_Mask.calls k)) (fun k => tie _) k (fun j hj => calls_ok (kc (ring_mayMask.ok j) (kc (cube_Weights.ok j) (kc (span_Apply.ok j) (kn))))) 400 Try.func51 (body := ring_Mask.body) (res := [.tmp 6, .tmp 7]) rfl (by kernel_rfl) ring_Mask.cuts (kc ⟨by kernel_rfl, rfl, fun _ => rfl, fun _ _ => by kernel_rfl⟩ (kn)) (fun x => by kernel_rfl), _, Try.func51, by kernel_rfl, by kernel_rfl⟩
/-! ### steeple/steeplelaw23.awake: function 40 -/
def steeplelaw23_awake.f (k : Nat) : Option Bool := (ring_Parts.f k 0 [true, false] [(⟨0, 1⟩ : S30)]).bind fun r0 => (ring_Value.f k 0 r0.1 []).bind fun r1 => (ring_Mask.f k 0 [(⟨0, 1⟩ : S30)] []).bind fun r2 => if r0.2 = 0 then (if r1.2 = 0 then (if r2.2 = 0 then (if (r0.1.length : Int) = 1 then (if 0 < (r0.1.length : Int) then (if (rd30 r0.1 (0 : Int)).f0 = 0 ∧ (rd30 r0.1 (0 : Int)).f1 = 0 then (if r1.1.f0 = 0 ∧ r1.1.f1 = 0 then (if (r2.1.length : Int) = 2 then (if 1 < (r2.1.length : Int) then some (decide ((rd30 r2.1 (1 : Int)).f0 = 0 ∧ (rd30 r2.1 (1 : Int)).f1 = 1)) else none) else some false) else some false) else some false) else none) else some false) else some false) else some false) else some false
def steeplelaw23_awake.sig (k : Nat) : Sig E.toTys := ⟨[], [(false, .bool)], none, fun x => f k⟩
noncomputable def steeplelaw23_awake.body : Code := Try.f40.body.getD .skip
def steeplelaw23_awake.calls (k : Nat) : List (Nat × Sig E.toTys) := [(41, ring_Parts.sig k), (49, ring_Value.sig k), (51, ring_Mask.sig k)]
def steeplelaw23_awake.cuts : List (Cut E (RT E.toTys [(false, .bool)])) := []
theorem steeplelaw23_awake.ok (k : Nat) : Okf (XR E) Try.prog 40 (steeplelaw23_awake.sig k) := ⟨fn_ok (C := fun k => tab.ctx fun f => lk f (steeplelaw23_awake.calls k)) (fun k => tie _) k (fun j hj => calls_ok (kc (ring_Parts.ok j) (kc (ring_Value.ok j) (kc (ring_Mask.ok j) (kn))))) 400 Try.func40 (body := steeplelaw23_awake.body) (res := [.tmp 0]) rfl (by kernel_rfl) steeplelaw23_awake.cuts (kn) (fun x => by kernel_rfl), _, Try.func40, by kernel_rfl, by kernel_rfl⟩
/-! ### steeple/span.within$1: function 120 -/
def span_within_1.f (k : Nat) (a0 : S30) (a1 : Option Int) : Option Bool := (span_lead.f k a0).bind fun r0 => (match a1 with | none => none | some r1 => some (decide (r0 ≥ r1)))
def span_within_1.sig (k : Nat) : Sig E.toTys := ⟨[.st 1, .ptr (.int .i64)], [(false, .bool)], none, fun x => f k x.1 x.2.1⟩
noncomputable def span_within_1.body : Code := Try.f120.body.getD .skip
def span_within_1.calls (k : Nat) : List (Nat × Sig E.toTys) := [(107, span_lead.sig k)]
def span_within_1.cuts : List (Cut E (RT E.toTys [(false, .bool)])) := []
theorem span_within_1.ok (k : Nat) : Okf (XR E) Try.prog 120 (span_within_1.sig k) := ⟨fn_ok (C := fun k => tab.ctx fun f => lk f (span_within_1.calls k)) (fun k => tie _) k (fun j hj => calls_ok (kc (span_lead.ok j) (kn))) 400 Try.func120 (body := span_within_1.body) (res := [.tmp 3]) rfl (by kernel_rfl) span_within_1.cuts (kn) (fun x => by kernel_rfl), _, Try.func120, by kernel_rfl, by kernel_rfl⟩
/-! ### slices.IndexFunc: function 115 -/
def slices_IndexFunc115_c120.l2 : Nat → List S30 → Int → Int → Int → Option Int
  | 0, _, _, _, _ => none
  | k + 1, x0, x1, x2, x3 => if x3 < x2 then (if 0 ≤ x3 then (if x3 < (x0.length : Int) then ((span_within_1.f k (rd30 x0 x3) (some x1)).bind fun r0 => if r0 = true then some x3 else slices_IndexFunc115_c120.l2 k x0 x1 x2 (wrap64 (x3 + 1))) else none) else none) else some (-1)
def slices_IndexFunc115_c120.f (k : Nat) (a0 : List S30) (a1 : Int) : Option Int := slices_IndexFunc115_c120.l2 k a0 a1 (a0.length : Int) 0
def slices_IndexFunc115_c120.sig (k : Nat) : Sig E.toTys := ⟨[.slice (.st 1), .ext 120 (.int .i64)], [(false, .int .i64)], none, fun x => f k x.1 x.2.1⟩
noncomputable def slices_IndexFunc115_c120.body : Code := Try.f115.body.getD .skip
def slices_IndexFunc115_c120.calls (k : Nat) : List (Nat × Sig E.toTys) := [(120, span_within_1.sig k)]
def slices_IndexFunc115_c120.cuts : List (Cut E (RT E.toTys [(false, .int .i64)])) := [⟨true, 2, ⟨cat [.one (.val (.slice (.st 1))), .one (.val (.ext 120 (.int .i64)))] (cat (ds 5) (cat [.one (.val (.int .i64)), .one (.val (.int .i64))] (ds 10))), [], false⟩, fun k x => slices_IndexFunc115_c120.l2 k x.1.1 x.1.2.1 x.1.2.2.1 x.1.2.2.2.1⟩]
theorem slices_IndexFunc115_c120.ok (k : Nat) : Okf (XR E) Try.prog 115 (slices_IndexFunc115_c120.sig k) := ⟨fn_ok (C := fun k => tab.ctx fun f => lk f (slices_IndexFunc115_c120.calls k)) (fun k => tie _) k (fun j hj => calls_ok (kc (span_within_1.ok j) (kn))) 400 Try.func115 (body := slices_IndexFunc115_c120.body) (res := [.tmp 4]) rfl (by kernel_rfl) slices_IndexFunc115_c120.cuts (kc ⟨by kernel_rfl, rfl, fun _ => rfl, fun _ _ => by kernel_rfl⟩ (kn)) (fun x => by kernel_rfl), _, Try.func115, by kernel_rfl, by kernel_rfl⟩
/-! ### slices.ContainsFunc: function 90 -/
def slices_ContainsFunc90_c120.f (k : Nat) (a0 : List S30) (a1 : Int) : Option Bool := (slices_IndexFunc115_c120.f k a0 a1).bind fun r0 => some (decide (r0 ≥ 0))
def slices_ContainsFunc90_c120.sig (k : Nat) : Sig E.toTys := ⟨[.slice (.st 1), .ext 120 (.int .i64)], [(false, .bool)], none, fun x => f k x.1 x.2.1⟩
noncomputable def slices_ContainsFunc90_c120.body : Code := Try.f90.body.getD .skip
def slices_ContainsFunc90_c120.calls (k : Nat) : List (Nat × Sig E.toTys) := [(115, slices_IndexFunc115_c120.sig k)]
def slices_ContainsFunc90_c120.cuts : List (Cut E (RT E.toTys [(false, .bool)])) := []
theorem slices_ContainsFunc90_c120.ok (k : Nat) : Okf (XR E) Try.prog 90 (slices_ContainsFunc90_c120.sig k) := ⟨fn_ok (C := fun k => tab.ctx fun f => lk f (slices_ContainsFunc90_c120.calls k)) (fun k => tie _) k (fun j hj => calls_ok (kc (slices_IndexFunc115_c120.ok j) (kn))) 400 Try.func90 (body := slices_ContainsFunc90_c120.body) (res := [.tmp 4]) rfl (by kernel_rfl) slices_ContainsFunc90_c120.cuts (kn) (fun x => by kernel_rfl), _, Try.func90, by kernel_rfl, by kernel_rfl⟩
/-! ### steeple/span.within: function 103 -/
def span_within.f (k : Nat) (a0 : List S30) (a1 : Int) : Option Bool := (slices_ContainsFunc90_c120.f k a0 a1).bind fun r0 => some (!r0)
def span_within.sig (k : Nat) : Sig E.toTys := ⟨[.slice (.st 1), .int .i64], [(false, .bool)], none, fun x => f k x.1 x.2.1⟩
noncomputable def span_within.body : Code := Try.f103.body.getD .skip
def span_within.calls (k : Nat) : List (Nat × Sig E.toTys) := [(90, slices_ContainsFunc90_c120.sig k)]
def span_within.cuts : List (Cut E (RT E.toTys [(false, .bool)])) := []
theorem span_within.ok (k : Nat) : Okf (XR E) Try.prog 103 (span_within.sig k) := ⟨fn_ok (C := fun k => tab.ctx fun f => lk f (span_within.calls k)) (fun k => tie _) k (fun j hj => calls_ok (kc (slices_ContainsFunc90_c120.ok j) (kn))) 400 Try.func103 (body := span_within.body) (res := [.tmp 4]) rfl (by kernel_rfl) span_within.cuts (kn) (fun x => by kernel_rfl), _, Try.func103, by kernel_rfl, by kernel_rfl⟩
/-! ### steeple/span.Turn: function 82 -/
mutual
def span_Turn.l7 : Nat → Int → List S30 → Int → Int → List S30 → Option ((List S30) × Int)
  | 0, _, _, _, _, _ => none
  | k + 1, x0, x1, x2, x3, x4 => if x3 < x2 then (if 0 ≤ x3 then (if x3 < (x1.length : Int) then span_Turn.l10 k x0 x3 x1 x2 x3 x0 0 x4 (rd30 x1 x3).f0 (rd30 x1 x3).f1 else none) else none) else some (x4, 0)
def span_Turn.l10 : Nat → Int → Int → List S30 → Int → Int → Int → Int → List S30 → Int → Int → Option ((List S30) × Int)
  | 0, _, _, _, _, _, _, _, _, _, _ => none
  | k + 1, x0, x1, x2, x3, x4, x5, x6, x7, x8, x9 => if x6 < x5 then ((span_has.f k (⟨x8, x9⟩ : S30) x6).bind fun r1 => if r1 = true then (if 0 ≤ x6 then (if x6 < (x7.length : Int) then ((tower_Bit.f k x1).bind fun r2 => (tower_Add.f k (rd30 x7 x6) r2).bind fun r3 => if 0 ≤ x6 then (if x6 < (x7.length : Int) then span_Turn.l10 k x0 x1 x2 x3 x4 x5 (wrap64 (x6 + 1)) (x7.set (Int.toNat x6) r3) x8 x9 else none) else none) else none) else none) else span_Turn.l10 k x0 x1 x2 x3 x4 x5 (wrap64 (x6 + 1)) x7 x8 x9) else span_Turn.l7 k x0 x2 x3 (wrap64 (x4 + 1)) x7
end
def span_Turn.f (k : Nat) (a0 : List S30) (a1 : Int) : Option ((List S30) × Int) := if (a0.length : Int) > 128 then some ([], 1) else if a1 < 0 then some ([], 1) else if a1 > 128 then some ([], 1) else (span_within.f k a0 a1).bind fun r0 => if (!r0) = true then some ([], 6) else if 0 ≤ a1 then (if a1 ≤ 140737488355328 / ((16 : Nat) : Int) then span_Turn.l7 k a1 a0 (a0.length : Int) 0 (List.replicate (Int.toNat a1) z30) else none) else none
def span_Turn.sig (k : Nat) : Sig E.toTys := ⟨[.slice (.st 1), .int .i64], [(true, .slice (.st 1)), (false, .int .i64)], none, fun x => f k x.1 x.2.1⟩
noncomputable def span_Turn.body : Code := Try.f82.body.getD .skip
def span_Turn.calls (k : Nat) : List (Nat × Sig E.toTys) := [(103, span_within.sig k), (104, span_has.sig k), (105, tower_Bit.sig k), (62, tower_Add.sig k)]
def span_Turn.cuts : List (Cut E (RT E.toTys [(true, .slice (.st 1)), (false, .int .i64)])) := [⟨true, 7, ⟨cat (ds 1) (cat [.one (.val (.int .i64))] (cat (ds 4) (cat [.one (.ref 0)] (cat (ds 22) (cat [.one (.val (.slice (.st 1))), .one (.val (.int .i64)), .one (.val (.int .i64))] (ds 24)))))), [.arr (.st 1)], false⟩, fun k x => span_Turn.l7 k x.1.1 x.1.2.1 x.1.2.2.1 x.1.2.2.2.1 x.2.1⟩,
  ⟨true, 10, ⟨cat (ds 1) (cat [.one (.val (.int .i64))] (cat (ds 4) (cat [.one (.ref 0), .one (.val (.int .i64)), .one (.ptr 1 0)] (cat (ds 20) (cat [.one (.val (.slice (.st 1))), .one (.val (.int .i64)), .one (.val (.int .i64))] (cat (ds 4) (cat [.one (.val (.int .i64)), .one (.val (.int .i64))] (ds 18)))))))), [.arr (.st 1), .var [.val (.int .u64), .val (.int .u64)]], false⟩, fun k x => span_Turn.l10 k x.1.1 x.1.2.1 x.1.2.2.1 x.1.2.2.2.1 x.1.2.2.2.2.1 x.1.2.2.2.2.2.1 x.1.2.2.2.2.2.2.1 x.2.1 x.2.2.1.1 x.2.2.1.2.1⟩]
theorem span_Turn.ok (k : Nat) : Okf (XR E) Try.prog 82 (span_Turn.sig k) := ⟨fn_ok (C := fun k => tab.ctx fun f => lk f (span_Turn.calls k)) (fun k => tie _) k (fun j hj => calls_ok (kc (span_within.ok j) (kc (span_has.ok j) (kc (tower_Bit.ok j) (kc (tower_Add.ok j) (kn)))))) 400 Try.func82 (body := span_Turn.body) (res := [.tmp 4, .tmp 5]) rfl (by kernel_rfl) span_Turn.cuts (kc ⟨by kernel_rfl, rfl, fun _ => rfl, fun _ _ => by kernel_rfl⟩ (kc ⟨by kernel_rfl, rfl, fun _ => rfl, fun _ _ => by kernel_rfl⟩ (kn))) (fun x => by kernel_rfl), _, Try.func82, by kernel_rfl, by kernel_rfl⟩
/-! ### steeple/ring.Batch: function 42 -/
def ring_Batch.f (k : Nat) (a0 : Int) (a1 : List S30) (a2 : List S30) : Option (S30 × Int) := (ring_may.f k a0 a1 a2).bind fun r0 => if r0 = 0 then (if 0 ≤ a0 then ((span_Turn.f k a1 (shl .i64 1 a0)).bind fun r1 => (cube_Weights.f k a0 a2).bind fun r2 => (tower_Dot.f k a0 r2 r1.1).bind fun r3 => some (r3, 0)) else none) else some ((⟨0, 0⟩ : S30), r0)
def ring_Batch.sig (k : Nat) : Sig E.toTys := ⟨[.int .i64, .slice (.st 1), .slice (.st 1)], [(false, .st 1), (false, .int .i64)], none, fun x => f k x.1 x.2.1 x.2.2.1⟩
noncomputable def ring_Batch.body : Code := Try.f42.body.getD .skip
def ring_Batch.calls (k : Nat) : List (Nat × Sig E.toTys) := [(81, ring_may.sig k), (82, span_Turn.sig k), (63, cube_Weights.sig k), (35, tower_Dot.sig k)]
def ring_Batch.cuts : List (Cut E (RT E.toTys [(false, .st 1), (false, .int .i64)])) := []
theorem ring_Batch.ok (k : Nat) : Okf (XR E) Try.prog 42 (ring_Batch.sig k) := ⟨fn_ok (C := fun k => tab.ctx fun f => lk f (ring_Batch.calls k)) (fun k => tie _) k (fun j hj => calls_ok (kc (ring_may.ok j) (kc (span_Turn.ok j) (kc (cube_Weights.ok j) (kc (tower_Dot.ok j) (kn)))))) 400 Try.func42 (body := ring_Batch.body) (res := [.cell 6 30, .tmp 7]) rfl (by kernel_rfl) ring_Batch.cuts (kn) (fun x => by kernel_rfl), _, Try.func42, by kernel_rfl, by kernel_rfl⟩
/-! ### steeple/steeplelaw23.RingCounts: function 9 -/
mutual
def steeplelaw23_RingCounts.j2 : Nat → Option Bool
  | 0 => none
  | k + 1 => (steeplelaw23_awake.f k).bind fun r7 => some r7
def steeplelaw23_RingCounts.l12 : Nat → Int → List S30 → Int → Int → Int → Int → List S30 → Option Bool
  | 0, _, _, _, _, _, _, _ => none
  | k + 1, x0, x1, x2, x3, x4, x5, x6 => if x5 < x3 then (if x2 = 0 then none else if x0 = 2 then (if x2 = 0 then none else if [(⟨0, IntKind.u64.wrap (Int.tmod x5 x2)⟩ : S30)].length + [(⟨0, IntKind.u64.wrap (wrap64 (Int.tdiv x5 x2))⟩ : S30)].length ≤ 140737488355328 / 16 then steeplelaw23_RingCounts.j17 k x0 x1 x2 x3 x4 x5 x6 ([(⟨0, IntKind.u64.wrap (Int.tmod x5 x2)⟩ : S30)] ++ [(⟨0, IntKind.u64.wrap (wrap64 (Int.tdiv x5 x2))⟩ : S30)]) else none) else steeplelaw23_RingCounts.j17 k x0 x1 x2 x3 x4 x5 x6 [(⟨0, IntKind.u64.wrap (Int.tmod x5 x2)⟩ : S30)]) else (steeplelaw23_awake.f k).bind fun r8 => if r8 = true then (if x2 = 0 then none else some (decide (x4 ≤ wrap64 (x0 * (wrap64 (Int.tdiv x3 x2)))))) else some false
def steeplelaw23_RingCounts.j17 : Nat → Int → List S30 → Int → Int → Int → Int → List S30 → List S30 → Option Bool
  | 0, _, _, _, _, _, _, _, _ => none
  | k + 1, x0, x1, x2, x3, x4, x5, x6, x7 => (ring_Batch.f k x0 x6 x7).bind fun r9 => (ring_Batch.f k x0 x1 x7).bind fun r10 => if r9.2 = 0 then (if r10.2 = 0 then (if r9.1.f0 = r10.1.f0 ∧ r9.1.f1 = r10.1.f1 then steeplelaw23_RingCounts.j13 k x0 x1 x2 x3 (wrap64 (x4 + 1)) x5 x6 else steeplelaw23_RingCounts.j13 k x0 x1 x2 x3 x4 x5 x6) else steeplelaw23_RingCounts.j20 k) else steeplelaw23_RingCounts.j20 k
def steeplelaw23_RingCounts.j13 : Nat → Int → List S30 → Int → Int → Int → Int → List S30 → Option Bool
  | 0, _, _, _, _, _, _, _ => none
  | k + 1, x0, x1, x2, x3, x4, x5, x6 => steeplelaw23_RingCounts.l12 k x0 x1 x2 x3 x4 (wrap64 (x5 + 1)) x6
def steeplelaw23_RingCounts.j20 : Nat → Option Bool
  | 0 => none
  | k + 1 => some false
end
def steeplelaw23_RingCounts.f (k : Nat) (a0 : Int) (a1 : S77) (a2 : List S30) : Option Bool := if a0 < 1 then steeplelaw23_RingCounts.j2 k else if a0 > 2 then steeplelaw23_RingCounts.j2 k else if (a1.f0.length : Int) > 32 then steeplelaw23_RingCounts.j2 k else if (a1.f2.length : Int) > 6 then steeplelaw23_RingCounts.j2 k else if 0 ≤ a0 then (if a0 < ([1, 2, 4].length : Int) then (if (a2.length : Int) = rdI [1, 2, 4] a0 then ((steeplelaw01_Ref.f k a2).bind fun r0 => (steepleref06_All.f k a0 r0).bind fun r1 => if (!r1) = true then steeplelaw23_RingCounts.j2 k else (ring_Parts.f k a0 a1.f0 a1.f2).bind fun r2 => if r2.2 = 0 then ((steeplelaw01_Ref.f k a2).bind fun r3 => (steeplelaw01_Same.f k r2.1 r3).bind fun r4 => if r4 = true then ((steeplelaw23_awake.f k).bind fun r5 => some r5) else if 0 ≤ a0 then (if a0 < ([2, 4, 16].length : Int) then (if a0 = 2 then steeplelaw23_RingCounts.l12 k a0 a2 (rdI [2, 4, 16] a0) (wrap64 ((rdI [2, 4, 16] a0) * (rdI [2, 4, 16] a0))) 0 0 r2.1 else steeplelaw23_RingCounts.l12 k a0 a2 (rdI [2, 4, 16] a0) (rdI [2, 4, 16] a0) 0 0 r2.1) else none) else none) else (steeplelaw23_awake.f k).bind fun r6 => some r6) else steeplelaw23_RingCounts.j2 k) else none) else none
def steeplelaw23_RingCounts.sig (k : Nat) : Sig E.toTys := ⟨[.int .i64, .st 7, .slice (.st 1)], [(false, .bool)], none, fun x => f k x.1 x.2.1 x.2.2.1⟩
noncomputable def steeplelaw23_RingCounts.body : Code := Try.f9.body.getD .skip
def steeplelaw23_RingCounts.calls (k : Nat) : List (Nat × Sig E.toTys) := [(16, steeplelaw01_Ref.sig k), (27, steepleref06_All.sig k), (41, ring_Parts.sig k), (37, steeplelaw01_Same.sig k), (40, steeplelaw23_awake.sig k), (42, ring_Batch.sig k)]
def steeplelaw23_RingCounts.cuts : List (Cut E (RT E.toTys [(false, .bool)])) := [⟨false, 2, ⟨ds 137, [], false⟩, fun k x => steeplelaw23_RingCounts.j2 k⟩,
  ⟨true, 12, ⟨cat [.one (.val (.int .i64))] (cat (ds 1) (cat [.one (.val (.slice (.st 1)))] (cat (ds 4) (cat [.one (.ref 0)] (cat (ds 1) (cat [.one (.val (.int .i64)), .one (.val (.int .i64)), .one (.val (.int .i64)), .one (.val (.int .i64))] (ds 124))))))), [.arr (.st 1)], false⟩, fun k x => steeplelaw23_RingCounts.l12 k x.1.1 x.1.2.1 x.1.2.2.1 x.1.2.2.2.1 x.1.2.2.2.2.1 x.1.2.2.2.2.2.1 x.2.1⟩,
  ⟨false, 17, ⟨cat [.one (.val (.int .i64))] (cat (ds 1) (cat [.one (.val (.slice (.st 1)))] (cat (ds 4) (cat [.one (.ref 0)] (cat (ds 1) (cat [.one (.val (.int .i64)), .one (.val (.int .i64)), .one (.val (.int .i64)), .one (.val (.int .i64)), .one (.ref 1)] (ds 123))))))), [.arr (.st 1), .arr (.st 1)], false⟩, fun k x => steeplelaw23_RingCounts.j17 k x.1.1 x.1.2.1 x.1.2.2.1 x.1.2.2.2.1 x.1.2.2.2.2.1 x.1.2.2.2.2.2.1 x.2.1 x.2.2.1⟩,
  ⟨false, 13, ⟨cat [.one (.val (.int .i64))] (cat (ds 1) (cat [.one (.val (.slice (.st 1)))] (cat (ds 4) (cat [.one (.ref 0)] (cat (ds 1) (cat [.one (.val (.int .i64)), .one (.val (.int .i64)), .one (.val (.int .i64)), .one (.val (.int .i64))] (ds 124))))))), [.arr (.st 1)], false⟩, fun k x => steeplelaw23_RingCounts.j13 k x.1.1 x.1.2.1 x.1.2.2.1 x.1.2.2.2.1 x.1.2.2.2.2.1 x.1.2.2.2.2.2.1 x.2.1⟩,
  ⟨false, 20, ⟨ds 137, [], false⟩, fun k x => steeplelaw23_RingCounts.j20 k⟩]
theorem steeplelaw23_RingCounts.ok (k : Nat) : Okf (XR E) Try.prog 9 (steeplelaw23_RingCounts.sig k) := ⟨fn_ok (C := fun k => tab.ctx fun f => lk f (steeplelaw23_RingCounts.calls k)) (fun k => tie _) k (fun j hj => calls_ok (kc (steeplelaw01_Ref.ok j) (kc (steepleref06_All.ok j) (kc (ring_Parts.ok j) (kc (steeplelaw01_Same.ok j) (kc (steeplelaw23_awake.ok j) (kc (ring_Batch.ok j) (kn)))))))) 400 Try.func9 (body := steeplelaw23_RingCounts.body) (res := [.tmp 6]) rfl (by kernel_rfl) steeplelaw23_RingCounts.cuts (kc ⟨by kernel_rfl, rfl, fun _ => rfl, fun _ _ => by kernel_rfl⟩ (kc ⟨by kernel_rfl, rfl, fun _ => rfl, fun _ _ => by kernel_rfl⟩ (kc ⟨by kernel_rfl, rfl, fun _ => rfl, fun _ _ => by kernel_rfl⟩ (kc ⟨by kernel_rfl, rfl, fun _ => rfl, fun _ _ => by kernel_rfl⟩ (kc ⟨by kernel_rfl, rfl, fun _ => rfl, fun _ _ => by kernel_rfl⟩ (kn)))))) (fun x => by kernel_rfl), _, Try.func9, by kernel_rfl, by kernel_rfl⟩
/-! ### steeple/steeplelaw23.few: function 43 -/
def steeplelaw23_few.f (k : Nat) (a0 : Int) (a1 : S77) : Option Bool := if (a1.f0.length : Int) ≤ 130 then (if (a1.f1.length : Int) ≤ 6 then (if (a1.f2.length : Int) ≤ 6 then (if a0 ≤ 5 then some true else some (decide (a0 > 7))) else some false) else some false) else some false
def steeplelaw23_few.sig (k : Nat) : Sig E.toTys := ⟨[.int .i64, .st 7], [(false, .bool)], none, fun x => f k x.1 x.2.1⟩
noncomputable def steeplelaw23_few.body : Code := Try.f43.body.getD .skip
def steeplelaw23_few.calls (k : Nat) : List (Nat × Sig E.toTys) := []
def steeplelaw23_few.cuts : List (Cut E (RT E.toTys [(false, .bool)])) := []
theorem steeplelaw23_few.ok (k : Nat) : Okf (XR E) Try.prog 43 (steeplelaw23_few.sig k) := ⟨fn_ok (C := fun k => tab.ctx fun f => lk f (steeplelaw23_few.calls k)) (fun k => tie _) k (fun j hj => calls_ok (kn)) 400 Try.func43 (body := steeplelaw23_few.body) (res := [.tmp 4]) rfl (by kernel_rfl) steeplelaw23_few.cuts (kn) (fun x => by kernel_rfl), _, Try.func43, by kernel_rfl, by kernel_rfl⟩
/-! ### steeple/weave.ask: function 121 -/
def weave_ask.f (k : Nat) (a0 : Int) (a1 : Int) : Option Int := (octet_Wide.f k a0).bind fun r0 => if r0 = 0 then some 1 else (octet_Wide.f k a1).bind fun r1 => if r1 = 0 then some 1 else if a1 < a0 then some 1 else some 0
def weave_ask.sig (k : Nat) : Sig E.toTys := ⟨[.int .i64, .int .i64], [(false, .int .i64)], none, fun x => f k x.1 x.2.1⟩
noncomputable def weave_ask.body : Code := Try.f121.body.getD .skip
def weave_ask.calls (k : Nat) : List (Nat × Sig E.toTys) := [(58, octet_Wide.sig k)]
def weave_ask.cuts : List (Cut E (RT E.toTys [(false, .int .i64)])) := []
theorem weave_ask.ok (k : Nat) : Okf (XR E) Try.prog 121 (weave_ask.sig k) := ⟨fn_ok (C := fun k => tab.ctx fun f => lk f (weave_ask.calls k)) (fun k => tie _) k (fun j hj => calls_ok (kc (octet_Wide.ok j) (kn))) 400 Try.func121 (body := weave_ask.body) (res := [.tmp 4]) rfl (by kernel_rfl) weave_ask.cuts (kn) (fun x => by kernel_rfl), _, Try.func121, by kernel_rfl, by kernel_rfl⟩
/-! ### steeple/weave.of$1: function 131 -/
def weave_of_1.f (k : Nat) (a0 : S30) (a1 : Option Int) : Option Bool := (match a1 with | none => none | some r0 => (octet_Of.f k r0 a0).bind fun r1 => some (!r1))
def weave_of_1.sig (k : Nat) : Sig E.toTys := ⟨[.st 1, .ptr (.int .i64)], [(false, .bool)], none, fun x => f k x.1 x.2.1⟩
noncomputable def weave_of_1.body : Code := Try.f131.body.getD .skip
def weave_of_1.calls (k : Nat) : List (Nat × Sig E.toTys) := [(70, octet_Of.sig k)]
def weave_of_1.cuts : List (Cut E (RT E.toTys [(false, .bool)])) := []
theorem weave_of_1.ok (k : Nat) : Okf (XR E) Try.prog 131 (weave_of_1.sig k) := ⟨fn_ok (C := fun k => tab.ctx fun f => lk f (weave_of_1.calls k)) (fun k => tie _) k (fun j hj => calls_ok (kc (octet_Of.ok j) (kn))) 400 Try.func131 (body := weave_of_1.body) (res := [.tmp 3]) rfl (by kernel_rfl) weave_of_1.cuts (kn) (fun x => by kernel_rfl), _, Try.func131, by kernel_rfl, by kernel_rfl⟩
/-! ### slices.IndexFunc: function 115 -/
def slices_IndexFunc115_c131.l2 : Nat → List S30 → Int → Int → Int → Option Int
  | 0, _, _, _, _ => none
  | k + 1, x0, x1, x2, x3 => if x3 < x2 then (if 0 ≤ x3 then (if x3 < (x0.length : Int) then ((weave_of_1.f k (rd30 x0 x3) (some x1)).bind fun r0 => if r0 = true then some x3 else slices_IndexFunc115_c131.l2 k x0 x1 x2 (wrap64 (x3 + 1))) else none) else none) else some (-1)
def slices_IndexFunc115_c131.f (k : Nat) (a0 : List S30) (a1 : Int) : Option Int := slices_IndexFunc115_c131.l2 k a0 a1 (a0.length : Int) 0
def slices_IndexFunc115_c131.sig (k : Nat) : Sig E.toTys := ⟨[.slice (.st 1), .ext 131 (.int .i64)], [(false, .int .i64)], none, fun x => f k x.1 x.2.1⟩
noncomputable def slices_IndexFunc115_c131.body : Code := Try.f115.body.getD .skip
def slices_IndexFunc115_c131.calls (k : Nat) : List (Nat × Sig E.toTys) := [(131, weave_of_1.sig k)]
def slices_IndexFunc115_c131.cuts : List (Cut E (RT E.toTys [(false, .int .i64)])) := [⟨true, 2, ⟨cat [.one (.val (.slice (.st 1))), .one (.val (.ext 131 (.int .i64)))] (cat (ds 5) (cat [.one (.val (.int .i64)), .one (.val (.int .i64))] (ds 10))), [], false⟩, fun k x => slices_IndexFunc115_c131.l2 k x.1.1 x.1.2.1 x.1.2.2.1 x.1.2.2.2.1⟩]
theorem slices_IndexFunc115_c131.ok (k : Nat) : Okf (XR E) Try.prog 115 (slices_IndexFunc115_c131.sig k) := ⟨fn_ok (C := fun k => tab.ctx fun f => lk f (slices_IndexFunc115_c131.calls k)) (fun k => tie _) k (fun j hj => calls_ok (kc (weave_of_1.ok j) (kn))) 400 Try.func115 (body := slices_IndexFunc115_c131.body) (res := [.tmp 4]) rfl (by kernel_rfl) slices_IndexFunc115_c131.cuts (kc ⟨by kernel_rfl, rfl, fun _ => rfl, fun _ _ => by kernel_rfl⟩ (kn)) (fun x => by kernel_rfl), _, Try.func115, by kernel_rfl, by kernel_rfl⟩
/-! ### slices.ContainsFunc: function 90 -/
def slices_ContainsFunc90_c131.f (k : Nat) (a0 : List S30) (a1 : Int) : Option Bool := (slices_IndexFunc115_c131.f k a0 a1).bind fun r0 => some (decide (r0 ≥ 0))
def slices_ContainsFunc90_c131.sig (k : Nat) : Sig E.toTys := ⟨[.slice (.st 1), .ext 131 (.int .i64)], [(false, .bool)], none, fun x => f k x.1 x.2.1⟩
noncomputable def slices_ContainsFunc90_c131.body : Code := Try.f90.body.getD .skip
def slices_ContainsFunc90_c131.calls (k : Nat) : List (Nat × Sig E.toTys) := [(115, slices_IndexFunc115_c131.sig k)]
def slices_ContainsFunc90_c131.cuts : List (Cut E (RT E.toTys [(false, .bool)])) := []
theorem slices_ContainsFunc90_c131.ok (k : Nat) : Okf (XR E) Try.prog 90 (slices_ContainsFunc90_c131.sig k) := ⟨fn_ok (C := fun k => tab.ctx fun f => lk f (slices_ContainsFunc90_c131.calls k)) (fun k => tie _) k (fun j hj => calls_ok (kc (slices_IndexFunc115_c131.ok j) (kn))) 400 Try.func90 (body := slices_ContainsFunc90_c131.body) (res := [.tmp 4]) rfl (by kernel_rfl) slices_ContainsFunc90_c131.cuts (kn) (fun x => by kernel_rfl), _, Try.func90, by kernel_rfl, by kernel_rfl⟩
/-! ### steeple/weave.of: function 122 -/
def weave_of.f (k : Nat) (a0 : Int) (a1 : List S30) : Option Bool := (slices_ContainsFunc90_c131.f k a1 a0).bind fun r0 => some (!r0)
def weave_of.sig (k : Nat) : Sig E.toTys := ⟨[.int .i64, .slice (.st 1)], [(false, .bool)], none, fun x => f k x.1 x.2.1⟩
noncomputable def weave_of.body : Code := Try.f122.body.getD .skip
def weave_of.calls (k : Nat) : List (Nat × Sig E.toTys) := [(90, slices_ContainsFunc90_c131.sig k)]
def weave_of.cuts : List (Cut E (RT E.toTys [(false, .bool)])) := []
theorem weave_of.ok (k : Nat) : Okf (XR E) Try.prog 122 (weave_of.sig k) := ⟨fn_ok (C := fun k => tab.ctx fun f => lk f (weave_of.calls k)) (fun k => tie _) k (fun j hj => calls_ok (kc (slices_ContainsFunc90_c131.ok j) (kn))) 400 Try.func122 (body := weave_of.body) (res := [.tmp 4]) rfl (by kernel_rfl) weave_of.cuts (kn) (fun x => by kernel_rfl), _, Try.func122, by kernel_rfl, by kernel_rfl⟩
/-! ### steeple/weave.up: function 123 -/
def weave_up.f (k : Nat) (a0 : S30) (a1 : Int) : Option S30 := if a1 = 0 then some a0 else if a1 ≥ 64 then (if 0 ≤ wrap64 (a1 - 64) then some (⟨shl .u64 a0.f1 (wrap64 (a1 - 64)), 0⟩ : S30) else none) else if 0 ≤ a1 then (if 0 ≤ wrap64 (64 - a1) then (if 0 ≤ a1 then some (⟨bits .or .u64 (shl .u64 a0.f0 a1) (shr .u64 a0.f1 (wrap64 (64 - a1))), shl .u64 a0.f1 a1⟩ : S30) else none) else none) else none
def weave_up.sig (k : Nat) : Sig E.toTys := ⟨[.st 1, .int .i64], [(false, .st 1)], none, fun x => f k x.1 x.2.1⟩
noncomputable def weave_up.body : Code := Try.f123.body.getD .skip
def weave_up.calls (k : Nat) : List (Nat × Sig E.toTys) := []
def weave_up.cuts : List (Cut E (RT E.toTys [(false, .st 1)])) := []
theorem weave_up.ok (k : Nat) : Okf (XR E) Try.prog 123 (weave_up.sig k) := ⟨fn_ok (C := fun k => tab.ctx fun f => lk f (weave_up.calls k)) (fun k => tie _) k (fun j hj => calls_ok (kn)) 400 Try.func123 (body := weave_up.body) (res := [.cell 4 30]) rfl (by kernel_rfl) weave_up.cuts (kn) (fun x => by kernel_rfl), _, Try.func123, by kernel_rfl, by kernel_rfl⟩
/-! ### steeple/weave.Gather: function 106 -/
mutual
def weave_Gather.l11 : Nat → Int → Int → List S30 → Int → Int → List S30 → Option ((List S30) × Int)
  | 0, _, _, _, _, _, _ => none
  | k + 1, x0, x1, x2, x3, x4, x5 => if x4 < x3 then (if 0 ≤ x4 then (if x4 < (x2.length : Int) then (if x1 = 0 then none else if Int.tmod x4 x1 = 0 then (if x5.length + [(⟨0, 0⟩ : S30)].length ≤ 140737488355328 / 16 then weave_Gather.j15 k x0 x1 x4 x2 x3 x4 (x5 ++ [(⟨0, 0⟩ : S30)]) (rd30 x2 x4).f0 (rd30 x2 x4).f1 else none) else weave_Gather.j15 k x0 x1 x4 x2 x3 x4 x5 (rd30 x2 x4).f0 (rd30 x2 x4).f1) else none) else none) else some (x5, 0)
def weave_Gather.j15 : Nat → Int → Int → Int → List S30 → Int → Int → List S30 → Int → Int → Option ((List S30) × Int)
  | 0, _, _, _, _, _, _, _, _, _ => none
  | k + 1, x0, x1, x2, x3, x4, x5, x6, x7, x8 => if 0 ≤ wrap64 ((x6.length : Int) - 1) then (if wrap64 ((x6.length : Int) - 1) < (x6.length : Int) then (if x1 = 0 then none else if 0 ≤ x0 then ((weave_up.f k (⟨x7, x8⟩ : S30) (shl .i64 (Int.tmod x2 x1) x0)).bind fun r2 => (tower_Add.f k (rd30 x6 (wrap64 ((x6.length : Int) - 1))) r2).bind fun r3 => if 0 ≤ wrap64 ((x6.length : Int) - 1) then (if wrap64 ((x6.length : Int) - 1) < (x6.length : Int) then weave_Gather.l11 k x0 x1 x3 x4 (wrap64 (x5 + 1)) (x6.set (Int.toNat (wrap64 ((x6.length : Int) - 1))) r3) else none) else none) else none) else none) else none
end
def weave_Gather.f (k : Nat) (a0 : Int) (a1 : Int) (a2 : List S30) : Option ((List S30) × Int) := (weave_ask.f k a0 a1).bind fun r0 => if r0 = 0 then (if 0 ≤ wrap64 (a1 - a0) then (if shl .i64 1 (wrap64 (a1 - a0)) = 0 then none else if Int.tmod (a2.length : Int) (shl .i64 1 (wrap64 (a1 - a0))) = 0 then ((weave_of.f k a0 a2).bind fun r1 => if (!r1) = true then some ([], 5) else weave_Gather.l11 k a0 (shl .i64 1 (wrap64 (a1 - a0))) a2 (a2.length : Int) 0 []) else some ([], 6)) else none) else some ([], r0)
def weave_Gather.sig (k : Nat) : Sig E.toTys := ⟨[.int .i64, .int .i64, .slice (.st 1)], [(true, .slice (.st 1)), (false, .int .i64)], none, fun x => f k x.1 x.2.1 x.2.2.1⟩
noncomputable def weave_Gather.body : Code := Try.f106.body.getD .skip
def weave_Gather.calls (k : Nat) : List (Nat × Sig E.toTys) := [(121, weave_ask.sig k), (122, weave_of.sig k), (123, weave_up.sig k), (62, tower_Add.sig k)]
def weave_Gather.cuts : List (Cut E (RT E.toTys [(true, .slice (.st 1)), (false, .int .i64)])) := [⟨true, 11, ⟨cat [.one (.val (.int .i64))] (cat (ds 8) (cat [.one (.val (.int .i64)), .one (.ref 0)] (cat (ds 24) (cat [.one (.val (.slice (.st 1))), .one (.val (.int .i64)), .one (.val (.int .i64))] (ds 32))))), [.arr (.st 1)], false⟩, fun k x => weave_Gather.l11 k x.1.1 x.1.2.1 x.1.2.2.1 x.1.2.2.2.1 x.1.2.2.2.2.1 x.2.1⟩,
  ⟨false, 15, ⟨cat [.one (.val (.int .i64))] (cat (ds 8) (cat [.one (.val (.int .i64)), .one (.ref 0), .one (.val (.int .i64)), .one (.ptr 1 0)] (cat (ds 22) (cat [.one (.val (.slice (.st 1))), .one (.val (.int .i64)), .one (.val (.int .i64))] (ds 32))))), [.arr (.st 1), .var [.val (.int .u64), .val (.int .u64)]], false⟩, fun k x => weave_Gather.j15 k x.1.1 x.1.2.1 x.1.2.2.1 x.1.2.2.2.1 x.1.2.2.2.2.1 x.1.2.2.2.2.2.1 x.2.1 x.2.2.1.1 x.2.2.1.2.1⟩]
theorem weave_Gather.ok (k : Nat) : Okf (XR E) Try.prog 106 (weave_Gather.sig k) := ⟨fn_ok (C := fun k => tab.ctx fun f => lk f (weave_Gather.calls k)) (fun k => tie _) k (fun j hj => calls_ok (kc (weave_ask.ok j) (kc (weave_of.ok j) (kc (weave_up.ok j) (kc (tower_Add.ok j) (kn)))))) 400 Try.func106 (body := weave_Gather.body) (res := [.tmp 6, .tmp 7]) rfl (by kernel_rfl) weave_Gather.cuts (kc ⟨by kernel_rfl, rfl, fun _ => rfl, fun _ _ => by kernel_rfl⟩ (kc ⟨by kernel_rfl, rfl, fun _ => rfl, fun _ _ => by kernel_rfl⟩ (kn))) (fun x => by kernel_rfl), _, Try.func106, by kernel_rfl, by kernel_rfl⟩
/-! ### steeple/weave.Bits: function 83 -/
def weave_Bits.l3 : Nat → Int → List Bool → Int → Int → List S30 → Option ((List S30) × Int)
  | 0, _, _, _, _, _ => none
  | k + 1, x0, x1, x2, x3, x4 => if x3 < x2 then (if 0 ≤ x3 then (if x3 < (x1.length : Int) then (if (rdB x1 x3) = true then ((tower_One.f k).bind fun r0 => if x4.length + [r0].length ≤ 140737488355328 / 16 then weave_Bits.l3 k x0 x1 x2 (wrap64 (x3 + 1)) (x4 ++ [r0]) else none) else if x4.length + [(⟨0, 0⟩ : S30)].length ≤ 140737488355328 / 16 then weave_Bits.l3 k x0 x1 x2 (wrap64 (x3 + 1)) (x4 ++ [(⟨0, 0⟩ : S30)]) else none) else none) else none) else (weave_Gather.f k 0 x0 x4).bind fun r1 => some (r1.1, r1.2)
def weave_Bits.f (k : Nat) (a0 : Int) (a1 : List Bool) : Option ((List S30) × Int) := weave_Bits.l3 k a0 a1 (a1.length : Int) 0 []
def weave_Bits.sig (k : Nat) : Sig E.toTys := ⟨[.int .i64, .slice .bool], [(true, .slice (.st 1)), (false, .int .i64)], none, fun x => f k x.1 x.2.1⟩
noncomputable def weave_Bits.body : Code := Try.f83.body.getD .skip
def weave_Bits.calls (k : Nat) : List (Nat × Sig E.toTys) := [(92, tower_One.sig k), (106, weave_Gather.sig k)]
def weave_Bits.cuts : List (Cut E (RT E.toTys [(true, .slice (.st 1)), (false, .int .i64)])) := [⟨true, 3, ⟨cat [.one (.val (.int .i64))] (cat (ds 5) (cat [.one (.ref 0)] (cat (ds 3) (cat [.one (.val (.slice .bool)), .one (.val (.int .i64)), .one (.val (.int .i64))] (ds 16))))), [.arr (.st 1)], false⟩, fun k x => weave_Bits.l3 k x.1.1 x.1.2.1 x.1.2.2.1 x.1.2.2.2.1 x.2.1⟩]
theorem weave_Bits.ok (k : Nat) : Okf (XR E) Try.prog 83 (weave_Bits.sig k) := ⟨fn_ok (C := fun k => tab.ctx fun f => lk f (weave_Bits.calls k)) (fun k => tie _) k (fun j hj => calls_ok (kc (tower_One.ok j) (kc (weave_Gather.ok j) (kn)))) 400 Try.func83 (body := weave_Bits.body) (res := [.tmp 4, .tmp 5]) rfl (by kernel_rfl) weave_Bits.cuts (kc ⟨by kernel_rfl, rfl, fun _ => rfl, fun _ _ => by kernel_rfl⟩ (kn)) (fun x => by kernel_rfl), _, Try.func83, by kernel_rfl, by kernel_rfl⟩
/-! ### steeple/ring.Pack: function 44 -/
def ring_Pack.f (k : Nat) (a0 : Int) (a1 : List Bool) : Option ((List S30) × Int) := (ring_ask.f k a0 a1).bind fun r0 => if r0 = 0 then ((weave_Bits.f k a0 a1).bind fun r1 => some (r1.1, r1.2)) else some ([], r0)
def ring_Pack.sig (k : Nat) : Sig E.toTys := ⟨[.int .i64, .slice .bool], [(true, .slice (.st 1)), (false, .int .i64)], none, fun x => f k x.1 x.2.1⟩
noncomputable def ring_Pack.body : Code := Try.f44.body.getD .skip
def ring_Pack.calls (k : Nat) : List (Nat × Sig E.toTys) := [(78, ring_ask.sig k), (83, weave_Bits.sig k)]
def ring_Pack.cuts : List (Cut E (RT E.toTys [(true, .slice (.st 1)), (false, .int .i64)])) := []
theorem ring_Pack.ok (k : Nat) : Okf (XR E) Try.prog 44 (ring_Pack.sig k) := ⟨fn_ok (C := fun k => tab.ctx fun f => lk f (ring_Pack.calls k)) (fun k => tie _) k (fun j hj => calls_ok (kc (ring_ask.ok j) (kc (weave_Bits.ok j) (kn)))) 400 Try.func44 (body := ring_Pack.body) (res := [.tmp 4, .tmp 5]) rfl (by kernel_rfl) ring_Pack.cuts (kn) (fun x => by kernel_rfl), _, Try.func44, by kernel_rfl, by kernel_rfl⟩
/-! ### steeple/steepleref15.Log: function 47 -/
def steepleref15_Log.l3 : Nat → Int → Int → Int → Option Int
  | 0, _, _, _ => none
  | k + 1, x0, x1, x2 => if x2 ≤ 16 then (if x1 = x0 then some x2 else steepleref15_Log.l3 k x0 (wrap64 (2 * x1)) (wrap64 (x2 + 1))) else some (-1)
def steepleref15_Log.f (k : Nat) (a0 : Int) : Option Int := steepleref15_Log.l3 k a0 1 0
def steepleref15_Log.sig (k : Nat) : Sig E.toTys := ⟨[.int .i64], [(false, .int .i64)], none, fun x => f k x.1⟩
noncomputable def steepleref15_Log.body : Code := Try.f47.body.getD .skip
def steepleref15_Log.calls (k : Nat) : List (Nat × Sig E.toTys) := []
def steepleref15_Log.cuts : List (Cut E (RT E.toTys [(false, .int .i64)])) := [⟨true, 3, ⟨cat [.one (.val (.int .i64))] (cat (ds 2) (cat [.one (.val (.int .i64)), .one (.val (.int .i64))] (ds 10))), [], false⟩, fun k x => steepleref15_Log.l3 k x.1.1 x.1.2.1 x.1.2.2.1⟩]
theorem steepleref15_Log.ok (k : Nat) : Okf (XR E) Try.prog 47 (steepleref15_Log.sig k) := ⟨fn_ok (C := fun k => tab.ctx fun f => lk f (steepleref15_Log.calls k)) (fun k => tie _) k (fun j hj => calls_ok (kn)) 400 Try.func47 (body := steepleref15_Log.body) (res := [.tmp 2]) rfl (by kernel_rfl) steepleref15_Log.cuts (kc ⟨by kernel_rfl, rfl, fun _ => rfl, fun _ _ => by kernel_rfl⟩ (kn)) (fun x => by kernel_rfl), _, Try.func47, by kernel_rfl, by kernel_rfl⟩
/-! ### steeple/steepleref23.May: function 45 -/
def steepleref23_May.f (k : Nat) (a0 : Int) (a1 : List Bool) : Option Int := if a0 < 0 then some 1 else if a0 > 7 then some 1 else (steepleref15_Log.f k (a1.length : Int)).bind fun r0 => if r0 < a0 then some 6 else if r0 > 12 then some 6 else some 0
def steepleref23_May.sig (k : Nat) : Sig E.toTys := ⟨[.int .i64, .slice .bool], [(false, .int .i64)], none, fun x => f k x.1 x.2.1⟩
noncomputable def steepleref23_May.body : Code := Try.f45.body.getD .skip
def steepleref23_May.calls (k : Nat) : List (Nat × Sig E.toTys) := [(47, steepleref15_Log.sig k)]
def steepleref23_May.cuts : List (Cut E (RT E.toTys [(false, .int .i64)])) := []
theorem steepleref23_May.ok (k : Nat) : Okf (XR E) Try.prog 45 (steepleref23_May.sig k) := ⟨fn_ok (C := fun k => tab.ctx fun f => lk f (steepleref23_May.calls k)) (fun k => tie _) k (fun j hj => calls_ok (kc (steepleref15_Log.ok j) (kn))) 400 Try.func45 (body := steepleref23_May.body) (res := [.tmp 4]) rfl (by kernel_rfl) steepleref23_May.cuts (kn) (fun x => by kernel_rfl), _, Try.func45, by kernel_rfl, by kernel_rfl⟩
/-! ### steeple/steepleref23.Pack: function 46 -/
mutual
def steepleref23_Pack.l4 : Nat → List Bool → Int → Int → List S40 → Option (List S40)
  | 0, _, _, _, _ => none
  | k + 1, x0, x1, x2, x3 => if x1 = 0 then none else if x2 < wrap64 (Int.tdiv (x0.length : Int) x1) then steepleref23_Pack.l8 k x0 x1 x2 0 x3 0 0 else some x3
def steepleref23_Pack.l8 : Nat → List Bool → Int → Int → Int → List S40 → Int → Int → Option (List S40)
  | 0, _, _, _, _, _, _, _ => none
  | k + 1, x0, x1, x2, x3, x4, x5, x6 => if x3 < x1 then (if 0 ≤ wrap64 ((wrap64 (x1 * x2)) + x3) then (if wrap64 ((wrap64 (x1 * x2)) + x3) < (x0.length : Int) then (if (rdB x0 (wrap64 ((wrap64 (x1 * x2)) + x3))) = true then ((steepleref02_Bit.f k x3).bind fun r1 => (steepleref02_Add.f k (⟨x5, x6⟩ : S40) r1).bind fun r2 => steepleref23_Pack.l8 k x0 x1 x2 (wrap64 (x3 + 1)) x4 r2.f0 r2.f1) else steepleref23_Pack.l8 k x0 x1 x2 (wrap64 (x3 + 1)) x4 x5 x6) else none) else none) else if x4.length + [(⟨x5, x6⟩ : S40)].length ≤ 140737488355328 / 16 then steepleref23_Pack.l4 k x0 x1 (wrap64 (x2 + 1)) (x4 ++ [(⟨x5, x6⟩ : S40)]) else none
end
def steepleref23_Pack.f (k : Nat) (a0 : Int) (a1 : List Bool) : Option (List S40) := (steepleref15_Two.f k a0).bind fun r0 => steepleref23_Pack.l4 k a1 r0 0 []
def steepleref23_Pack.sig (k : Nat) : Sig E.toTys := ⟨[.int .i64, .slice .bool], [(true, .slice (.st 3))], none, fun x => f k x.1 x.2.1⟩
noncomputable def steepleref23_Pack.body : Code := Try.f46.body.getD .skip
def steepleref23_Pack.calls (k : Nat) : List (Nat × Sig E.toTys) := [(29, steepleref15_Two.sig k), (84, steepleref02_Bit.sig k), (67, steepleref02_Add.sig k)]
def steepleref23_Pack.cuts : List (Cut E (RT E.toTys [(true, .slice (.st 3))])) := [⟨true, 4, ⟨cat (ds 1) (cat [.one (.val (.slice .bool))] (cat (ds 3) (cat [.one (.ref 0), .one (.val (.int .i64)), .one (.val (.int .i64))] (ds 34)))), [.arr (.st 3)], false⟩, fun k x => steepleref23_Pack.l4 k x.1.1 x.1.2.1 x.1.2.2.1 x.2.1⟩,
  ⟨true, 8, ⟨cat (ds 1) (cat [.one (.val (.slice .bool))] (cat (ds 3) (cat [.one (.ref 0), .one (.val (.int .i64)), .one (.val (.int .i64)), .one (.ptr 1 0), .one (.val (.int .i64))] (ds 32)))), [.arr (.st 3), .var [.val (.int .u64), .val (.int .u64)]], false⟩, fun k x => steepleref23_Pack.l8 k x.1.1 x.1.2.1 x.1.2.2.1 x.1.2.2.2.1 x.2.1 x.2.2.1.1 x.2.2.1.2.1⟩]
theorem steepleref23_Pack.ok (k : Nat) : Okf (XR E) Try.prog 46 (steepleref23_Pack.sig k) := ⟨fn_ok (C := fun k => tab.ctx fun f => lk f (steepleref23_Pack.calls k)) (fun k => tie _) k (fun j hj => calls_ok (kc (steepleref15_Two.ok j) (kc (steepleref02_Bit.ok j) (kc (steepleref02_Add.ok j) (kn))))) 400 Try.func46 (body := steepleref23_Pack.body) (res := [.tmp 4]) rfl (by kernel_rfl) steepleref23_Pack.cuts (kc ⟨by kernel_rfl, rfl, fun _ => rfl, fun _ _ => by kernel_rfl⟩ (kc ⟨by kernel_rfl, rfl, fun _ => rfl, fun _ _ => by kernel_rfl⟩ (kn))) (fun x => by kernel_rfl), _, Try.func46, by kernel_rfl, by kernel_rfl⟩
/-! ### steeple/steepleref23.Parts: function 48 -/
mutual
def steepleref23_Parts.l4 : Nat → List Bool → List S40 → Int → Int → List S40 → Option (List S40)
  | 0, _, _, _, _, _ => none
  | k + 1, x0, x1, x2, x3, x4 => if x3 < x2 then steepleref23_Parts.l8 k x0 x1 x2 x3 0 x4 0 0 else some x4
def steepleref23_Parts.l8 : Nat → List Bool → List S40 → Int → Int → Int → List S40 → Int → Int → Option (List S40)
  | 0, _, _, _, _, _, _, _, _ => none
  | k + 1, x0, x1, x2, x3, x4, x5, x6, x7 => if x2 = 0 then none else if x4 < wrap64 (Int.tdiv (x0.length : Int) x2) then (if 0 ≤ wrap64 ((wrap64 (x2 * x4)) + x3) then (if wrap64 ((wrap64 (x2 * x4)) + x3) < (x0.length : Int) then (if (rdB x0 (wrap64 ((wrap64 (x2 * x4)) + x3))) = true then ((steepleref15_Weight.f k x1 x4).bind fun r1 => (steepleref02_Add.f k (⟨x6, x7⟩ : S40) r1).bind fun r2 => steepleref23_Parts.l8 k x0 x1 x2 x3 (wrap64 (x4 + 1)) x5 r2.f0 r2.f1) else steepleref23_Parts.l8 k x0 x1 x2 x3 (wrap64 (x4 + 1)) x5 x6 x7) else none) else none) else if x5.length + [(⟨x6, x7⟩ : S40)].length ≤ 140737488355328 / 16 then steepleref23_Parts.l4 k x0 x1 x2 (wrap64 (x3 + 1)) (x5 ++ [(⟨x6, x7⟩ : S40)]) else none
end
def steepleref23_Parts.f (k : Nat) (a0 : Int) (a1 : List Bool) (a2 : List S40) : Option (List S40) := (steepleref15_Two.f k a0).bind fun r0 => steepleref23_Parts.l4 k a1 a2 r0 0 []
def steepleref23_Parts.sig (k : Nat) : Sig E.toTys := ⟨[.int .i64, .slice .bool, .slice (.st 3)], [(true, .slice (.st 3))], none, fun x => f k x.1 x.2.1 x.2.2.1⟩
noncomputable def steepleref23_Parts.body : Code := Try.f48.body.getD .skip
def steepleref23_Parts.calls (k : Nat) : List (Nat × Sig E.toTys) := [(29, steepleref15_Two.sig k), (68, steepleref15_Weight.sig k), (67, steepleref02_Add.sig k)]
def steepleref23_Parts.cuts : List (Cut E (RT E.toTys [(true, .slice (.st 3))])) := [⟨true, 4, ⟨cat (ds 1) (cat [.one (.val (.slice .bool)), .one (.val (.slice (.st 3)))] (cat (ds 4) (cat [.one (.ref 0), .one (.val (.int .i64)), .one (.val (.int .i64))] (ds 35)))), [.arr (.st 3)], false⟩, fun k x => steepleref23_Parts.l4 k x.1.1 x.1.2.1 x.1.2.2.1 x.1.2.2.2.1 x.2.1⟩,
  ⟨true, 8, ⟨cat (ds 1) (cat [.one (.val (.slice .bool)), .one (.val (.slice (.st 3)))] (cat (ds 4) (cat [.one (.ref 0), .one (.val (.int .i64)), .one (.val (.int .i64)), .one (.ptr 1 0), .one (.val (.int .i64))] (ds 33)))), [.arr (.st 3), .var [.val (.int .u64), .val (.int .u64)]], false⟩, fun k x => steepleref23_Parts.l8 k x.1.1 x.1.2.1 x.1.2.2.1 x.1.2.2.2.1 x.1.2.2.2.2.1 x.2.1 x.2.2.1.1 x.2.2.1.2.1⟩]
theorem steepleref23_Parts.ok (k : Nat) : Okf (XR E) Try.prog 48 (steepleref23_Parts.sig k) := ⟨fn_ok (C := fun k => tab.ctx fun f => lk f (steepleref23_Parts.calls k)) (fun k => tie _) k (fun j hj => calls_ok (kc (steepleref15_Two.ok j) (kc (steepleref15_Weight.ok j) (kc (steepleref02_Add.ok j) (kn))))) 400 Try.func48 (body := steepleref23_Parts.body) (res := [.tmp 6]) rfl (by kernel_rfl) steepleref23_Parts.cuts (kc ⟨by kernel_rfl, rfl, fun _ => rfl, fun _ _ => by kernel_rfl⟩ (kc ⟨by kernel_rfl, rfl, fun _ => rfl, fun _ _ => by kernel_rfl⟩ (kn))) (fun x => by kernel_rfl), _, Try.func48, by kernel_rfl, by kernel_rfl⟩
/-! ### steeple/steepleref23.Two: function 50 -/
def steepleref23_Two.f (k : Nat) (a0 : Int) (a1 : List S40) (a2 : List S40) : Option Int := if a0 < 0 then some 1 else if a0 > 7 then some 1 else (steepleref15_Two.f k a0).bind fun r0 => if (a1.length : Int) = r0 then (if (a2.length : Int) = a0 then ((steepleref06_All.f k a0 a1).bind fun r1 => if (!r1) = true then some 5 else (steepleref06_All.f k a0 a2).bind fun r2 => if (!r2) = true then some 5 else some 0) else some 6) else some 6
def steepleref23_Two.sig (k : Nat) : Sig E.toTys := ⟨[.int .i64, .slice (.st 3), .slice (.st 3)], [(false, .int .i64)], none, fun x => f k x.1 x.2.1 x.2.2.1⟩
noncomputable def steepleref23_Two.body : Code := Try.f50.body.getD .skip
def steepleref23_Two.calls (k : Nat) : List (Nat × Sig E.toTys) := [(29, steepleref15_Two.sig k), (27, steepleref06_All.sig k)]
def steepleref23_Two.cuts : List (Cut E (RT E.toTys [(false, .int .i64)])) := []
theorem steepleref23_Two.ok (k : Nat) : Okf (XR E) Try.prog 50 (steepleref23_Two.sig k) := ⟨fn_ok (C := fun k => tab.ctx fun f => lk f (steepleref23_Two.calls k)) (fun k => tie _) k (fun j hj => calls_ok (kc (steepleref15_Two.ok j) (kc (steepleref06_All.ok j) (kn)))) 400 Try.func50 (body := steepleref23_Two.body) (res := [.tmp 6]) rfl (by kernel_rfl) steepleref23_Two.cuts (kn) (fun x => by kernel_rfl), _, Try.func50, by kernel_rfl, by kernel_rfl⟩
/-! ### steeple/steeplelaw23.RingParts: function 10 -/
def steeplelaw23_RingParts.f (k : Nat) (a0 : Int) (a1 : S77) : Option Bool := (steeplelaw23_few.f k a0 a1).bind fun r0 => if (!r0) = true then ((steeplelaw23_awake.f k).bind fun r1 => some r1) else (steeplelaw01_Ref.f k a1.f2).bind fun r2 => (steeplelaw01_Ref.f k a1.f1).bind fun r3 => (ring_Pack.f k a0 a1.f0).bind fun r4 => (ring_Parts.f k a0 a1.f0 a1.f2).bind fun r5 => (steepleref23_May.f k a0 a1.f0).bind fun r6 => if r4.2 = r6 then (if r4.2 = 0 then ((steepleref23_Pack.f k a0 a1.f0).bind fun r7 => (steeplelaw01_Same.f k r4.1 r7).bind fun r8 => if (!r8) = true then some false else (steepleref15_Log.f k (a1.f0.length : Int)).bind fun r9 => if (a1.f2.length : Int) = wrap64 (r9 - a0) then ((steepleref06_All.f k a0 r2).bind fun r10 => if (!r10) = true then ((steeplelaw23_awake.f k).bind fun r11 => if r11 = true then (if r5.2 = 5 then some (decide ((r5.1.length : Int) = 0)) else some false) else some false) else (steepleref23_Parts.f k a0 a1.f0 r2).bind fun r12 => (ring_Value.f k a0 r5.1 a1.f1).bind fun r13 => if r5.2 = 0 then ((steeplelaw01_Same.f k r5.1 r12).bind fun r14 => if (!r14) = true then some false else (steepleref23_Two.f k a0 r12 r3).bind fun r15 => if r13.2 = r15 then (if r13.2 = 0 then ((steeplelaw23_awake.f k).bind fun r16 => if r16 = true then ((steepleref15_Value.f k r12 r3).bind fun r17 => some (decide (r13.1.f0 = r17.f0 ∧ r13.1.f1 = r17.f1))) else some false) else (steeplelaw23_awake.f k).bind fun r18 => if r18 = true then some (decide (r13.1.f0 = 0 ∧ r13.1.f1 = 0)) else some false) else some false) else some false) else (steeplelaw23_awake.f k).bind fun r19 => if r19 = true then (if r5.2 = 6 then some (decide ((r5.1.length : Int) = 0)) else some false) else some false) else (steeplelaw23_awake.f k).bind fun r20 => if r20 = true then (if r5.2 = r4.2 then some (decide (wrap64 ((r4.1.length : Int) + (r5.1.length : Int)) = 0)) else some false) else some false) else some false
def steeplelaw23_RingParts.sig (k : Nat) : Sig E.toTys := ⟨[.int .i64, .st 7], [(false, .bool)], none, fun x => f k x.1 x.2.1⟩
noncomputable def steeplelaw23_RingParts.body : Code := Try.f10.body.getD .skip
def steeplelaw23_RingParts.calls (k : Nat) : List (Nat × Sig E.toTys) := [(43, steeplelaw23_few.sig k), (40, steeplelaw23_awake.sig k), (16, steeplelaw01_Ref.sig k), (44, ring_Pack.sig k), (41, ring_Parts.sig k), (45, steepleref23_May.sig k), (46, steepleref23_Pack.sig k), (37, steeplelaw01_Same.sig k), (47, steepleref15_Log.sig k), (27, steepleref06_All.sig k), (48, steepleref23_Parts.sig k), (49, ring_Value.sig k), (50, steepleref23_Two.sig k), (39, steepleref15_Value.sig k)]
def steeplelaw23_RingParts.cuts : List (Cut E (RT E.toTys [(false, .bool)])) := []
theorem steeplelaw23_RingParts.ok (k : Nat) : Okf (XR E) Try.prog 10 (steeplelaw23_RingParts.sig k) := ⟨fn_ok (C := fun k => tab.ctx fun f => lk f (steeplelaw23_RingParts.calls k)) (fun k => tie _) k (fun j hj => calls_ok (kc (steeplelaw23_few.ok j) (kc (steeplelaw23_awake.ok j) (kc (steeplelaw01_Ref.ok j) (kc (ring_Pack.ok j) (kc (ring_Parts.ok j) (kc (steepleref23_May.ok j) (kc (steepleref23_Pack.ok j) (kc (steeplelaw01_Same.ok j) (kc (steepleref15_Log.ok j) (kc (steepleref06_All.ok j) (kc (steepleref23_Parts.ok j) (kc (ring_Value.ok j) (kc (steepleref23_Two.ok j) (kc (steepleref15_Value.ok j) (kn)))))))))))))))) 400 Try.func10 (body := steeplelaw23_RingParts.body) (res := [.tmp 4]) rfl (by kernel_rfl) steeplelaw23_RingParts.cuts (kn) (fun x => by kernel_rfl), _, Try.func10, by kernel_rfl, by kernel_rfl⟩
/-! ### steeple/steepleref02.Dot: function 52 -/
def steepleref02_Dot.l5 : Nat → Int → List S40 → List S40 → Int → Int → Int → Int → Int → Option S40
  | 0, _, _, _, _, _, _, _, _ => none
  | k + 1, x0, x1, x2, x3, x4, x5, x6, x7 => if x3 < (x1.length : Int) then (if 0 ≤ x3 then (if x3 < (x1.length : Int) then ((steepleref01_Of.f k x0 (rd40 x1 x3)).bind fun r0 => if (!r0) = true then some (⟨0, 0⟩ : S40) else if 0 ≤ x3 then (if x3 < (x2.length : Int) then ((steepleref01_Of.f k x0 (rd40 x2 x3)).bind fun r1 => if (!r1) = true then some (⟨0, 0⟩ : S40) else if 0 ≤ x3 then (if x3 < (x1.length : Int) then (if 0 ≤ x3 then (if x3 < (x2.length : Int) then ((steepleref02_Product.f k (rd40 x1 x3) (rd40 x2 x3)).bind fun r2 => (steepleref02_Add.f k (⟨x6, x7⟩ : S40) r2).bind fun r3 => steepleref02_Dot.l5 k x0 x1 x2 (wrap64 (x3 + 1)) x4 x5 r3.f0 r3.f1) else none) else none) else none) else none) else none) else none) else none) else none) else some (⟨x6, x7⟩ : S40)
def steepleref02_Dot.f (k : Nat) (a0 : Int) (a1 : List S40) (a2 : List S40) : Option S40 := if (a1.length : Int) = (a2.length : Int) then steepleref02_Dot.l5 k a0 a1 a2 0 0 0 0 0 else some (⟨0, 0⟩ : S40)
def steepleref02_Dot.sig (k : Nat) : Sig E.toTys := ⟨[.int .i64, .slice (.st 3), .slice (.st 3)], [(false, .st 3)], none, fun x => f k x.1 x.2.1 x.2.2.1⟩
noncomputable def steepleref02_Dot.body : Code := Try.f52.body.getD .skip
def steepleref02_Dot.calls (k : Nat) : List (Nat × Sig E.toTys) := [(28, steepleref01_Of.sig k), (69, steepleref02_Product.sig k), (67, steepleref02_Add.sig k)]
def steepleref02_Dot.cuts : List (Cut E (RT E.toTys [(false, .st 3)])) := [⟨true, 5, ⟨cat [.one (.val (.int .i64)), .one (.val (.slice (.st 3))), .one (.val (.slice (.st 3)))] (cat (ds 3) (cat [.one (.ptr 0 0), .one (.ptr 1 0), .one (.val (.int .i64))] (ds 41))), [.var [.val (.int .u64), .val (.int .u64)], .var [.val (.int .u64), .val (.int .u64)]], false⟩, fun k x => steepleref02_Dot.l5 k x.1.1 x.1.2.1 x.1.2.2.1 x.1.2.2.2.1 x.2.1.1 x.2.1.2.1 x.2.2.1.1 x.2.2.1.2.1⟩]
theorem steepleref02_Dot.ok (k : Nat) : Okf (XR E) Try.prog 52 (steepleref02_Dot.sig k) := ⟨fn_ok (C := fun k => tab.ctx fun f => lk f (steepleref02_Dot.calls k)) (fun k => tie _) k (fun j hj => calls_ok (kc (steepleref01_Of.ok j) (kc (steepleref02_Product.ok j) (kc (steepleref02_Add.ok j) (kn))))) 400 Try.func52 (body := steepleref02_Dot.body) (res := [.cell 6 40]) rfl (by kernel_rfl) steepleref02_Dot.cuts (kc ⟨by kernel_rfl, rfl, fun _ => rfl, fun _ _ => by kernel_rfl⟩ (kn)) (fun x => by kernel_rfl), _, Try.func52, by kernel_rfl, by kernel_rfl⟩
end Go.Proofs.Ytnjaocdgjaaffaa.B

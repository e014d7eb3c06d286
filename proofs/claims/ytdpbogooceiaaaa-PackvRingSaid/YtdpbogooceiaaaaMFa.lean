/- Own text: merged by pack2.py. -/
import Derived.Test.YtdpbogooceiaaaaProg
import Derived.Test.YtdpbogooceiaaaaMBa
import Derived.Test.YtdpbogooceiaaaaMBb
import Derived.Test.YtdpbogooceiaaaaMBc
set_option linter.unusedSimpArgs false
set_option linter.unusedVariables false
namespace Go.Proofs.Ytdpbogooceiaaaa.B
open Go.Proofs.Ytdpbogooceiaaaa.V.B Go.RowKit
set_option linter.unusedVariables false
structure S23 where
  f0 : Int
  f1 : Int
  f2 : Int
structure S38 where
  f0 : Int
  f1 : Int
structure S27 where
  f0 : List Bool
  f1 : List S38
structure S45 where
  f0 : List S38
  f1 : List S38
structure S51 where
  f0 : Int
  f1 : Int
structure S64 where
  f0 : Int
structure S73 where
  f0 : Int
  f1 : Int
  f2 : Int
  f3 : S38
structure S154 where
  f0 : Int
  f1 : Int
  f2 : Int
  f3 : S51
structure S102 where
  f0 : Int
  f1 : Int
  f2 : Int
  f3 : S38
structure S89 where
  f0 : Int
  f1 : Int
  f2 : List S102
  f3 : List S38
  f4 : S38
structure S111 where
  f0 : Int
  f1 : Int
  f2 : Int
  f3 : S51
structure S117 where
  f0 : List Bool
  f1 : List S38
  f2 : List S38
structure S222 where
  f0 : Int
  f1 : List S38
  f2 : List S38
  f3 : List S38
structure S210 where
  f0 : Option S222
  f1 : Int
def Es : Nat → Type
  | 0 => S23
  | 1 => S38
  | 2 => S27
  | 3 => S45
  | 4 => S51
  | 5 => S64
  | 6 => S73
  | 7 => S154
  | 8 => S102
  | 9 => S89
  | 10 => S111
  | 11 => S117
  | 12 => S222
  | 13 => S210
  | _ + 14 => Unit
def Efs : Nat → List Ty
  | 0 => [.int .i64, .int .i64, .int .i64]
  | 1 => [.int .u64, .int .u64]
  | 2 => [.slice .bool, .slice (.st 1)]
  | 3 => [.slice (.st 1), .slice (.st 1)]
  | 4 => [.int .u64, .int .u64]
  | 5 => [.int .i64]
  | 6 => [.int .i64, .int .i64, .int .i64, .int .u64, .int .u64]
  | 7 => [.int .i64, .int .i64, .int .i64, .int .u64, .int .u64]
  | 8 => [.int .i64, .int .i64, .int .i64, .int .u64, .int .u64]
  | 9 => [.int .i64, .int .i64, .slice (.st 8), .slice (.st 1), .int .u64, .int .u64]
  | 10 => [.int .i64, .int .i64, .int .i64, .int .u64, .int .u64]
  | 11 => [.slice .bool, .slice (.st 1), .slice (.st 1)]
  | 12 => [.int .i64, .slice (.st 1), .slice (.st 1), .slice (.st 1)]
  | 13 => [.ptr (.st 12), .int .i64]
  | _ + 14 => []
def z23 : S23 := ⟨0, 0, 0⟩
def z38 : S38 := ⟨0, 0⟩
def z27 : S27 := ⟨[], []⟩
def z45 : S45 := ⟨[], []⟩
def z51 : S51 := ⟨0, 0⟩
def z64 : S64 := ⟨0⟩
def z73 : S73 := ⟨0, 0, 0, z38⟩
def z154 : S154 := ⟨0, 0, 0, z51⟩
def z102 : S102 := ⟨0, 0, 0, z38⟩
def z89 : S89 := ⟨0, 0, [], [], z38⟩
def z111 : S111 := ⟨0, 0, 0, z51⟩
def z117 : S117 := ⟨[], [], []⟩
def z222 : S222 := ⟨0, [], [], []⟩
def z210 : S210 := ⟨none, 0⟩
def E : Env where
  S := Es
  fs := Efs
  z := fun n => match n with | 0 => z23 | 1 => z38 | 2 => z27 | 3 => z45 | 4 => z51 | 5 => z64 | 6 => z73 | 7 => z154 | 8 => z102 | 9 => z89 | 10 => z111 | 11 => z117 | 12 => z222 | 13 => z210 | _ + 14 => ()
  to := fun n => match n with | 0 => fun (x : S23) => (x.f0, x.f1, x.f2, ()) | 1 => fun (x : S38) => (x.f0, x.f1, ()) | 2 => fun (x : S27) => (x.f0, x.f1, ()) | 3 => fun (x : S45) => (x.f0, x.f1, ()) | 4 => fun (x : S51) => (x.f0, x.f1, ()) | 5 => fun (x : S64) => (x.f0, ()) | 6 => fun (x : S73) => (x.f0, x.f1, x.f2, x.f3.f0, x.f3.f1, ()) | 7 => fun (x : S154) => (x.f0, x.f1, x.f2, x.f3.f0, x.f3.f1, ()) | 8 => fun (x : S102) => (x.f0, x.f1, x.f2, x.f3.f0, x.f3.f1, ()) | 9 => fun (x : S89) => (x.f0, x.f1, x.f2, x.f3, x.f4.f0, x.f4.f1, ()) | 10 => fun (x : S111) => (x.f0, x.f1, x.f2, x.f3.f0, x.f3.f1, ()) | 11 => fun (x : S117) => (x.f0, x.f1, x.f2, ()) | 12 => fun (x : S222) => (x.f0, x.f1, x.f2, x.f3, ()) | 13 => fun (x : S210) => (x.f0, x.f1, ()) | _ + 14 => fun _ => ()
  of := fun n => match n with | 0 => fun x => (⟨x.1, x.2.1, x.2.2.1⟩ : S23) | 1 => fun x => (⟨x.1, x.2.1⟩ : S38) | 2 => fun x => (⟨x.1, x.2.1⟩ : S27) | 3 => fun x => (⟨x.1, x.2.1⟩ : S45) | 4 => fun x => (⟨x.1, x.2.1⟩ : S51) | 5 => fun x => (⟨x.1⟩ : S64) | 6 => fun x => (⟨x.1, x.2.1, x.2.2.1, (⟨x.2.2.2.1, x.2.2.2.2.1⟩ : S38)⟩ : S73) | 7 => fun x => (⟨x.1, x.2.1, x.2.2.1, (⟨x.2.2.2.1, x.2.2.2.2.1⟩ : S51)⟩ : S154) | 8 => fun x => (⟨x.1, x.2.1, x.2.2.1, (⟨x.2.2.2.1, x.2.2.2.2.1⟩ : S38)⟩ : S102) | 9 => fun x => (⟨x.1, x.2.1, x.2.2.1, x.2.2.2.1, (⟨x.2.2.2.2.1, x.2.2.2.2.2.1⟩ : S38)⟩ : S89) | 10 => fun x => (⟨x.1, x.2.1, x.2.2.1, (⟨x.2.2.2.1, x.2.2.2.2.1⟩ : S51)⟩ : S111) | 11 => fun x => (⟨x.1, x.2.1, x.2.2.1⟩ : S117) | 12 => fun x => (⟨x.1, x.2.1, x.2.2.1, x.2.2.2.1⟩ : S222) | 13 => fun x => (⟨x.1, x.2.1⟩ : S210) | _ + 14 => fun _ => ()
  of_to := fun n => match n with | 0 => fun _ => rfl | 1 => fun _ => rfl | 2 => fun _ => rfl | 3 => fun _ => rfl | 4 => fun _ => rfl | 5 => fun _ => rfl | 6 => fun _ => rfl | 7 => fun _ => rfl | 8 => fun _ => rfl | 9 => fun _ => rfl | 10 => fun _ => rfl | 11 => fun _ => rfl | 12 => fun _ => rfl | 13 => fun _ => rfl | _ + 14 => fun _ => rfl
  to_of := fun n => match n with | 0 => fun _ => rfl | 1 => fun _ => rfl | 2 => fun _ => rfl | 3 => fun _ => rfl | 4 => fun _ => rfl | 5 => fun _ => rfl | 6 => fun _ => rfl | 7 => fun _ => rfl | 8 => fun _ => rfl | 9 => fun _ => rfl | 10 => fun _ => rfl | 11 => fun _ => rfl | 12 => fun _ => rfl | 13 => fun _ => rfl | _ + 14 => fun _ => rfl
theorem zl_ok : ∀ n, E.to n (E.z n) = zl E (E.fs n) := fun n => match n with | 0 => rfl | 1 => rfl | 2 => rfl | 3 => rfl | 4 => rfl | 5 => rfl | 6 => rfl | 7 => rfl | 8 => rfl | 9 => rfl | 10 => rfl | 11 => rfl | 12 => rfl | 13 => rfl | _ + 14 => rfl
def rd23 (xs : List S23) (i : Int) : S23 := xs.getD i.toNat z23
def rd38 (xs : List S38) (i : Int) : S38 := xs.getD i.toNat z38
def rd27 (xs : List S27) (i : Int) : S27 := xs.getD i.toNat z27
def rd45 (xs : List S45) (i : Int) : S45 := xs.getD i.toNat z45
def rd51 (xs : List S51) (i : Int) : S51 := xs.getD i.toNat z51
def rd64 (xs : List S64) (i : Int) : S64 := xs.getD i.toNat z64
def rd73 (xs : List S73) (i : Int) : S73 := xs.getD i.toNat z73
def rd154 (xs : List S154) (i : Int) : S154 := xs.getD i.toNat z154
def rd102 (xs : List S102) (i : Int) : S102 := xs.getD i.toNat z102
def rd89 (xs : List S89) (i : Int) : S89 := xs.getD i.toNat z89
def rd111 (xs : List S111) (i : Int) : S111 := xs.getD i.toNat z111
def rd117 (xs : List S117) (i : Int) : S117 := xs.getD i.toNat z117
def rd222 (xs : List S222) (i : Int) : S222 := xs.getD i.toNat z222
def rd210 (xs : List S210) (i : Int) : S210 := xs.getD i.toNat z210
def rdI (xs : List Int) (i : Int) : Int := xs.getD i.toNat 0
def rdB (xs : List Bool) (i : Int) : Bool := xs.getD i.toNat false
def rdL {α : Type} (xs : List (List α)) (i : Int) : List α := xs.getD i.toNat []
def by256_793 : ByteArray := ⟨#[0, 1, 2, 2, 3, 3, 3, 3, 4, 4, 4, 4, 4, 4, 4, 4, 5, 5, 5, 5, 5, 5, 5, 5, 5, 5, 5, 5, 5, 5, 5, 5, 6, 6, 6, 6, 6, 6, 6, 6, 6, 6, 6, 6, 6, 6, 6, 6, 6, 6, 6, 6, 6, 6, 6, 6, 6, 6, 6, 6, 6, 6, 6, 6, 7, 7, 7, 7, 7, 7, 7, 7, 7, 7, 7, 7, 7, 7, 7, 7, 7, 7, 7, 7, 7, 7, 7, 7, 7, 7, 7, 7, 7, 7, 7, 7, 7, 7, 7, 7, 7, 7, 7, 7, 7, 7, 7, 7, 7, 7, 7, 7, 7, 7, 7, 7, 7, 7, 7, 7, 7, 7, 7, 7, 7, 7, 7, 7, 8, 8, 8, 8, 8, 8, 8, 8, 8, 8, 8, 8, 8, 8, 8, 8, 8, 8, 8, 8, 8, 8, 8, 8, 8, 8, 8, 8, 8, 8, 8, 8, 8, 8, 8, 8, 8, 8, 8, 8, 8, 8, 8, 8, 8, 8, 8, 8, 8, 8, 8, 8, 8, 8, 8, 8, 8, 8, 8, 8, 8, 8, 8, 8, 8, 8, 8, 8, 8, 8, 8, 8, 8, 8, 8, 8, 8, 8, 8, 8, 8, 8, 8, 8, 8, 8, 8, 8, 8, 8, 8, 8, 8, 8, 8, 8, 8, 8, 8, 8, 8, 8, 8, 8, 8, 8, 8, 8, 8, 8, 8, 8, 8, 8, 8, 8, 8, 8, 8, 8, 8, 8, 8, 8, 8, 8, 8, 8]⟩
def tab : Tab := ⟨[(3, .int .i64), (4, .bool), (5, .int .u8), (23, .st 0), (24, .slice .bool), (25, .slice (.st 1)), (27, .st 2), (29, .slice (.int .i64)), (31, .int .i64), (36, .int .u64), (38, .st 1), (45, .st 3), (47, .slice (.st 4)), (51, .st 4), (54, .arr 3 (.slice (.st 1))), (56, .slice (.st 1)), (64, .st 5), (68, .slice (.st 6)), (73, .st 6), (77, .slice (.st 7)), (87, .slice (.st 8)), (89, .st 9), (94, .slice (.st 10)), (102, .st 8), (111, .st 10), (117, .st 11), (122, .slice (.slice (.st 1))), (124, .ptr (.st 13)), (142, .slice (.slice (.st 1))), (154, .st 7), (179, .int .u64), (196, .arr 2 (.st 1)), (208, .ptr (.st 12)), (210, .st 13), (222, .st 12), (225, .slice (.int .u64))], [(23, 0, 0, 3), (23, 1, 1, 3), (23, 2, 2, 3), (27, 0, 0, 24), (27, 1, 1, 25), (38, 0, 0, 36), (38, 1, 1, 36), (45, 0, 0, 25), (45, 1, 1, 25), (51, 0, 0, 36), (51, 1, 1, 36), (64, 0, 0, 3), (73, 0, 0, 3), (73, 1, 1, 3), (73, 2, 2, 3), (73, 3, 3, 38), (89, 0, 0, 3), (89, 1, 1, 3), (89, 2, 2, 87), (89, 3, 3, 25), (89, 4, 4, 38), (102, 0, 0, 3), (102, 1, 1, 3), (102, 2, 2, 3), (102, 3, 3, 38), (111, 0, 0, 3), (111, 1, 1, 3), (111, 2, 2, 3), (111, 3, 3, 51), (117, 1, 1, 25), (117, 2, 2, 25), (154, 0, 0, 3), (154, 1, 1, 3), (154, 2, 2, 3), (154, 3, 3, 51), (210, 0, 0, 208), (210, 1, 1, 3), (222, 0, 0, 3), (222, 1, 1, 25), (222, 2, 2, 25), (222, 3, 3, 25)], [(24, 1), (25, 16), (29, 8), (47, 16), (56, 16), (68, 40), (77, 40), (87, 40), (94, 40), (122, 24), (142, 24), (225, 8)], [(38, 2), (51, 2)], [9]⟩
theorem tab_ok : tab.chk E Try.prog = true := by kernel_rfl
theorem tie (calls : Nat → Option (Sig E.toTys)) : Tie (XR E) Try.prog (tab.ctx calls) := tie_of zl_ok tab_ok calls
end Go.Proofs.Ytdpbogooceiaaaa.B
namespace Go.Proofs.Ytdpbogooceiaaaa.B
open Go.Proofs.Ytdpbogooceiaaaa.V.B Go.RowKit
set_option linter.unusedVariables false
/-! ### steeple/steepleref15.Two: function 57 -/
def steepleref15_Two.l3 : Nat → Int → Int → Int → Option Int
  | 0, _, _, _ => none
  | k + 1, x0, x1, x2 => if x2 < x0 then steepleref15_Two.l3 k x0 (wrap64 (2 * x1)) (wrap64 (x2 + 1)) else some x1
def steepleref15_Two.f (k : Nat) (a0 : Int) : Option Int := steepleref15_Two.l3 k a0 1 0
def steepleref15_Two.sig (k : Nat) : Sig E.toTys := ⟨[.int .i64], [(false, .int .i64)], none, fun x => f k x.1⟩
noncomputable def steepleref15_Two.body : Code := Try.f57.body.getD .skip
def steepleref15_Two.calls (k : Nat) : List (Nat × Sig E.toTys) := []
def steepleref15_Two.cuts : List (Cut E (RT E.toTys [(false, .int .i64)])) := [⟨true, 3, ⟨cat [.one (.val (.int .i64))] (cat (ds 2) (cat [.one (.val (.int .i64)), .one (.val (.int .i64))] (ds 8))), [], false⟩, fun k x => steepleref15_Two.l3 k x.1.1 x.1.2.1 x.1.2.2.1⟩]
theorem steepleref15_Two.ok (k : Nat) : Okf (XR E) Try.prog 57 (steepleref15_Two.sig k) := ⟨fn_ok (C := fun k => tab.ctx fun f => lk f (steepleref15_Two.calls k)) (fun k => tie _) k (fun j hj => calls_ok (kn)) 400 Try.func57 (body := steepleref15_Two.body) (res := [.tmp 2]) rfl (by kernel_rfl) steepleref15_Two.cuts (kc ⟨by kernel_rfl, rfl, fun _ => rfl, fun _ _ => by kernel_rfl⟩ (kn)) (fun x => by kernel_rfl), _, Try.func57, by kernel_rfl, by kernel_rfl⟩
/-! ### steeple/steepleref18.Fits: function 15 -/
def steepleref18_Fits.j2 : Nat → Option Bool
  | 0 => none
  | k + 1 => some false
def steepleref18_Fits.f (k : Nat) (a0 : Int) (a1 : Int) (a2 : Int) : Option Bool := if a0 < 0 then steepleref18_Fits.j2 k else if a0 > 3 then steepleref18_Fits.j2 k else if a1 < 0 then steepleref18_Fits.j2 k else if a1 > 6 then steepleref18_Fits.j2 k else if a2 < 0 then steepleref18_Fits.j2 k else (steepleref15_Two.f k a1).bind fun r0 => if a2 ≥ r0 then steepleref18_Fits.j2 k else if a0 = 0 then some (decide (a2 = 0)) else some true
def steepleref18_Fits.sig (k : Nat) : Sig E.toTys := ⟨[.int .i64, .int .i64, .int .i64], [(false, .bool)], none, fun x => f k x.1 x.2.1 x.2.2.1⟩
noncomputable def steepleref18_Fits.body : Code := Try.f15.body.getD .skip
def steepleref18_Fits.calls (k : Nat) : List (Nat × Sig E.toTys) := [(57, steepleref15_Two.sig k)]
def steepleref18_Fits.cuts : List (Cut E (RT E.toTys [(false, .bool)])) := [⟨false, 2, ⟨ds 37, [], false⟩, fun k x => steepleref18_Fits.j2 k⟩]
theorem steepleref18_Fits.ok (k : Nat) : Okf (XR E) Try.prog 15 (steepleref18_Fits.sig k) := ⟨fn_ok (C := fun k => tab.ctx fun f => lk f (steepleref18_Fits.calls k)) (fun k => tie _) k (fun j hj => calls_ok (kc (steepleref15_Two.ok j) (kn))) 400 Try.func15 (body := steepleref18_Fits.body) (res := [.tmp 6]) rfl (by kernel_rfl) steepleref18_Fits.cuts (kc ⟨by kernel_rfl, rfl, fun _ => rfl, fun _ _ => by kernel_rfl⟩ (kn)) (fun x => by kernel_rfl), _, Try.func15, by kernel_rfl, by kernel_rfl⟩
/-! ### steeple/turn.Fits: function 75 -/
def turn_Fits.f (k : Nat) (a0 : Int) (a1 : Int) (a2 : Int) : Option Bool := if a0 ≥ 0 then (if a0 ≤ 3 then (if a1 ≥ 0 then (if a1 ≤ 6 then (if a2 ≥ 0 then (if 0 ≤ a1 then (if a2 < shl .i64 1 a1 then (if a0 = 0 then some (decide (a2 = 0)) else some true) else some false) else none) else some false) else some false) else some false) else some false) else some false
def turn_Fits.sig (k : Nat) : Sig E.toTys := ⟨[.int .i64, .int .i64, .int .i64], [(false, .bool)], none, fun x => f k x.1 x.2.1 x.2.2.1⟩
noncomputable def turn_Fits.body : Code := Try.f75.body.getD .skip
def turn_Fits.calls (k : Nat) : List (Nat × Sig E.toTys) := []
def turn_Fits.cuts : List (Cut E (RT E.toTys [(false, .bool)])) := []
theorem turn_Fits.ok (k : Nat) : Okf (XR E) Try.prog 75 (turn_Fits.sig k) := ⟨fn_ok (C := fun k => tab.ctx fun f => lk f (turn_Fits.calls k)) (fun k => tie _) k (fun j hj => calls_ok (kn)) 400 Try.func75 (body := turn_Fits.body) (res := [.tmp 6]) rfl (by kernel_rfl) turn_Fits.cuts (kn) (fun x => by kernel_rfl), _, Try.func75, by kernel_rfl, by kernel_rfl⟩
/-! ### steeple/turn.From: function 76 -/
mutual
def turn_From.j2 : Nat → Option Int
  | 0 => none
  | k + 1 => some (-1)
def turn_From.j5 : Nat → Int → Int → Int → Int → Option Int
  | 0, _, _, _, _ => none
  | k + 1, x0, x1, x2, x3 => if x0 = 2 then turn_From.j7 k x0 x1 x2 x3 else if x3 ≥ x2 then some (wrap64 (x3 - x2)) else turn_From.j7 k x0 x1 x2 x3
def turn_From.j7 : Nat → Int → Int → Int → Int → Option Int
  | 0, _, _, _, _ => none
  | k + 1, x0, x1, x2, x3 => if x0 = 3 then (if 0 ≤ x1 then some (wrap64 ((wrap64 (x3 - x2)) + (shl .i64 1 x1))) else none) else some (-1)
end
def turn_From.f (k : Nat) (a0 : Int) (a1 : Int) (a2 : Int) (a3 : Int) : Option Int := (turn_Fits.f k a0 a1 a2).bind fun r0 => if (!r0) = true then turn_From.j2 k else if a3 < 0 then turn_From.j2 k else if 0 ≤ a1 then (if a3 ≥ shl .i64 1 a1 then turn_From.j2 k else if a0 = 2 then (if 0 ≤ a1 then (if wrap64 (a3 + a2) < shl .i64 1 a1 then some (wrap64 (a3 + a2)) else turn_From.j5 k a0 a1 a2 a3) else none) else turn_From.j5 k a0 a1 a2 a3) else none
def turn_From.sig (k : Nat) : Sig E.toTys := ⟨[.int .i64, .int .i64, .int .i64, .int .i64], [(false, .int .i64)], none, fun x => f k x.1 x.2.1 x.2.2.1 x.2.2.2.1⟩
noncomputable def turn_From.body : Code := Try.f76.body.getD .skip
def turn_From.calls (k : Nat) : List (Nat × Sig E.toTys) := [(75, turn_Fits.sig k)]
def turn_From.cuts : List (Cut E (RT E.toTys [(false, .int .i64)])) := [⟨false, 2, ⟨ds 58, [], false⟩, fun k x => turn_From.j2 k⟩,
  ⟨false, 5, ⟨cat [.one (.val (.int .i64)), .one (.val (.int .i64)), .one (.val (.int .i64)), .one (.val (.int .i64))] (ds 54), [], false⟩, fun k x => turn_From.j5 k x.1.1 x.1.2.1 x.1.2.2.1 x.1.2.2.2.1⟩,
  ⟨false, 7, ⟨cat [.one (.val (.int .i64)), .one (.val (.int .i64)), .one (.val (.int .i64)), .one (.val (.int .i64))] (ds 54), [], false⟩, fun k x => turn_From.j7 k x.1.1 x.1.2.1 x.1.2.2.1 x.1.2.2.2.1⟩]
theorem turn_From.ok (k : Nat) : Okf (XR E) Try.prog 76 (turn_From.sig k) := ⟨fn_ok (C := fun k => tab.ctx fun f => lk f (turn_From.calls k)) (fun k => tie _) k (fun j hj => calls_ok (kc (turn_Fits.ok j) (kn))) 400 Try.func76 (body := turn_From.body) (res := [.tmp 8]) rfl (by kernel_rfl) turn_From.cuts (kc ⟨by kernel_rfl, rfl, fun _ => rfl, fun _ _ => by kernel_rfl⟩ (kc ⟨by kernel_rfl, rfl, fun _ => rfl, fun _ _ => by kernel_rfl⟩ (kc ⟨by kernel_rfl, rfl, fun _ => rfl, fun _ _ => by kernel_rfl⟩ (kn)))) (fun x => by kernel_rfl), _, Try.func76, by kernel_rfl, by kernel_rfl⟩
/-! ### steeple/turn.Bits: function 17 -/
def turn_Bits.l7 : Nat → Int → Int → Int → List Bool → Int → Int → List Bool → Option ((List Bool) × Int)
  | 0, _, _, _, _, _, _, _ => none
  | k + 1, x0, x1, x2, x3, x4, x5, x6 => if x5 < x4 then (if 0 ≤ x1 then ((turn_From.f k x0 x1 x2 (bits .and .i64 x5 (wrap64 ((shl .i64 1 x1) - 1)))).bind fun r1 => if r1 ≥ 0 then (if 0 ≤ wrap64 ((wrap64 (x5 - (bits .and .i64 x5 (wrap64 ((shl .i64 1 x1) - 1))))) + r1) then (if wrap64 ((wrap64 (x5 - (bits .and .i64 x5 (wrap64 ((shl .i64 1 x1) - 1))))) + r1) < (x3.length : Int) then (if 0 ≤ x5 then (if x5 < (x6.length : Int) then turn_Bits.l7 k x0 x1 x2 x3 x4 (wrap64 (x5 + 1)) (x6.set (Int.toNat x5) (rdB x3 (wrap64 ((wrap64 (x5 - (bits .and .i64 x5 (wrap64 ((shl .i64 1 x1) - 1))))) + r1)))) else none) else none) else none) else none) else turn_Bits.l7 k x0 x1 x2 x3 x4 (wrap64 (x5 + 1)) x6) else none) else some (x6, 0)
def turn_Bits.f (k : Nat) (a0 : Int) (a1 : Int) (a2 : Int) (a3 : List Bool) : Option ((List Bool) × Int) := (turn_Fits.f k a0 a1 a2).bind fun r0 => if (!r0) = true then some ([], 1) else if 0 ≤ a1 then (if shl .i64 1 a1 = 0 then none else if Int.tmod (a3.length : Int) (shl .i64 1 a1) = 0 then (if 0 ≤ (a3.length : Int) then (if (a3.length : Int) ≤ 140737488355328 / ((1 : Nat) : Int) then turn_Bits.l7 k a0 a1 a2 a3 (a3.length : Int) 0 (List.replicate (Int.toNat (a3.length : Int)) false) else none) else none) else some ([], 6)) else none
def turn_Bits.sig (k : Nat) : Sig E.toTys := ⟨[.int .i64, .int .i64, .int .i64, .slice .bool], [(true, .slice .bool), (false, .int .i64)], none, fun x => f k x.1 x.2.1 x.2.2.1 x.2.2.2.1⟩
noncomputable def turn_Bits.body : Code := Try.f17.body.getD .skip
def turn_Bits.calls (k : Nat) : List (Nat × Sig E.toTys) := [(75, turn_Fits.sig k), (76, turn_From.sig k)]
def turn_Bits.cuts : List (Cut E (RT E.toTys [(true, .slice .bool), (false, .int .i64)])) := [⟨true, 7, ⟨cat [.one (.val (.int .i64)), .one (.val (.int .i64)), .one (.val (.int .i64)), .one (.val (.slice .bool))] (cat (ds 6) (cat [.one (.ref 0)] (cat (ds 20) (cat [.one (.val (.int .i64)), .one (.val (.int .i64))] (ds 27))))), [.arr (.bool)], false⟩, fun k x => turn_Bits.l7 k x.1.1 x.1.2.1 x.1.2.2.1 x.1.2.2.2.1 x.1.2.2.2.2.1 x.1.2.2.2.2.2.1 x.2.1⟩]
theorem turn_Bits.ok (k : Nat) : Okf (XR E) Try.prog 17 (turn_Bits.sig k) := ⟨fn_ok (C := fun k => tab.ctx fun f => lk f (turn_Bits.calls k)) (fun k => tie _) k (fun j hj => calls_ok (kc (turn_Fits.ok j) (kc (turn_From.ok j) (kn)))) 400 Try.func17 (body := turn_Bits.body) (res := [.tmp 8, .tmp 9]) rfl (by kernel_rfl) turn_Bits.cuts (kc ⟨by kernel_rfl, rfl, fun _ => rfl, fun _ _ => by kernel_rfl⟩ (kn)) (fun x => by kernel_rfl), _, Try.func17, by kernel_rfl, by kernel_rfl⟩
/-! ### steeple/steeplelaw18.same: function 74 -/
def steeplelaw18_same.l4 : Nat → List Bool → List Bool → Int → Option Bool
  | 0, _, _, _ => none
  | k + 1, x0, x1, x2 => if x2 < (x0.length : Int) then (if 0 ≤ x2 then (if x2 < (x0.length : Int) then (if 0 ≤ x2 then (if x2 < (x1.length : Int) then (if (rdB x0 x2) = (rdB x1 x2) then steeplelaw18_same.l4 k x0 x1 (wrap64 (x2 + 1)) else some false) else none) else none) else none) else none) else some true
def steeplelaw18_same.f (k : Nat) (a0 : List Bool) (a1 : List Bool) : Option Bool := if (a0.length : Int) = (a1.length : Int) then steeplelaw18_same.l4 k a0 a1 0 else some false
def steeplelaw18_same.sig (k : Nat) : Sig E.toTys := ⟨[.slice .bool, .slice .bool], [(false, .bool)], none, fun x => f k x.1 x.2.1⟩
noncomputable def steeplelaw18_same.body : Code := Try.f74.body.getD .skip
def steeplelaw18_same.calls (k : Nat) : List (Nat × Sig E.toTys) := []
def steeplelaw18_same.cuts : List (Cut E (RT E.toTys [(false, .bool)])) := [⟨true, 4, ⟨cat [.one (.val (.slice .bool)), .one (.val (.slice .bool))] (cat (ds 3) (cat [.one (.val (.int .i64))] (ds 20))), [], false⟩, fun k x => steeplelaw18_same.l4 k x.1.1 x.1.2.1 x.1.2.2.1⟩]
theorem steeplelaw18_same.ok (k : Nat) : Okf (XR E) Try.prog 74 (steeplelaw18_same.sig k) := ⟨fn_ok (C := fun k => tab.ctx fun f => lk f (steeplelaw18_same.calls k)) (fun k => tie _) k (fun j hj => calls_ok (kn)) 400 Try.func74 (body := steeplelaw18_same.body) (res := [.tmp 4]) rfl (by kernel_rfl) steeplelaw18_same.cuts (kc ⟨by kernel_rfl, rfl, fun _ => rfl, fun _ _ => by kernel_rfl⟩ (kn)) (fun x => by kernel_rfl), _, Try.func74, by kernel_rfl, by kernel_rfl⟩
/-! ### steeple/steeplelaw18.awake: function 16 -/
def steeplelaw18_awake.f (k : Nat) : Option Bool := (turn_Bits.f k 1 2 1 [true, true, false, false]).bind fun r0 => (turn_Bits.f k 3 2 1 [false, false, false, true]).bind fun r1 => if r0.2 = 0 then (if r1.2 = 0 then ((steeplelaw18_same.f k r0.1 [false, true, true, false]).bind fun r2 => if r2 = true then ((steeplelaw18_same.f k r1.1 [true, false, false, false]).bind fun r3 => some r3) else some false) else some false) else some false
def steeplelaw18_awake.sig (k : Nat) : Sig E.toTys := ⟨[], [(false, .bool)], none, fun x => f k⟩
noncomputable def steeplelaw18_awake.body : Code := Try.f16.body.getD .skip
def steeplelaw18_awake.calls (k : Nat) : List (Nat × Sig E.toTys) := [(17, turn_Bits.sig k), (74, steeplelaw18_same.sig k)]
def steeplelaw18_awake.cuts : List (Cut E (RT E.toTys [(false, .bool)])) := []
theorem steeplelaw18_awake.ok (k : Nat) : Okf (XR E) Try.prog 16 (steeplelaw18_awake.sig k) := ⟨fn_ok (C := fun k => tab.ctx fun f => lk f (steeplelaw18_awake.calls k)) (fun k => tie _) k (fun j hj => calls_ok (kc (turn_Bits.ok j) (kc (steeplelaw18_same.ok j) (kn)))) 400 Try.func16 (body := steeplelaw18_awake.body) (res := [.tmp 0]) rfl (by kernel_rfl) steeplelaw18_awake.cuts (kn) (fun x => by kernel_rfl), _, Try.func16, by kernel_rfl, by kernel_rfl⟩
/-! ### steeple/octet.Wide: function 77 -/
def octet_Wide.f (k : Nat) (a0 : Int) : Option Int := if a0 < 0 then some 0 else if a0 > 7 then some 0 else if a0 ≤ 3 then some 1 else if 0 ≤ wrap64 (a0 - 3) then some (shl .i64 1 (wrap64 (a0 - 3))) else none
def octet_Wide.sig (k : Nat) : Sig E.toTys := ⟨[.int .i64], [(false, .int .i64)], none, fun x => f k x.1⟩
noncomputable def octet_Wide.body : Code := Try.f77.body.getD .skip
def octet_Wide.calls (k : Nat) : List (Nat × Sig E.toTys) := []
def octet_Wide.cuts : List (Cut E (RT E.toTys [(false, .int .i64)])) := []
theorem octet_Wide.ok (k : Nat) : Okf (XR E) Try.prog 77 (octet_Wide.sig k) := ⟨fn_ok (C := fun k => tab.ctx fun f => lk f (octet_Wide.calls k)) (fun k => tie _) k (fun j hj => calls_ok (kn)) 400 Try.func77 (body := octet_Wide.body) (res := [.tmp 2]) rfl (by kernel_rfl) octet_Wide.cuts (kn) (fun x => by kernel_rfl), _, Try.func77, by kernel_rfl, by kernel_rfl⟩
/-! ### steeple/octet.Of: function 82 -/
def octet_Of.f (k : Nat) (a0 : Int) (a1 : S38) : Option Bool := if a0 < 0 then some false else if a0 > 7 then some false else if a0 = 7 then some true else if a0 = 6 then some (decide (a1.f0 = 0)) else if a1.f0 = 0 then (if 0 ≤ a0 then (if 0 ≤ shl .u64 1 a0 then some (decide (shr .u64 a1.f1 (shl .u64 1 a0) = 0)) else none) else none) else some false
def octet_Of.sig (k : Nat) : Sig E.toTys := ⟨[.int .i64, .st 1], [(false, .bool)], none, fun x => f k x.1 x.2.1⟩
noncomputable def octet_Of.body : Code := Try.f82.body.getD .skip
def octet_Of.calls (k : Nat) : List (Nat × Sig E.toTys) := []
def octet_Of.cuts : List (Cut E (RT E.toTys [(false, .bool)])) := []
theorem octet_Of.ok (k : Nat) : Okf (XR E) Try.prog 82 (octet_Of.sig k) := ⟨fn_ok (C := fun k => tab.ctx fun f => lk f (octet_Of.calls k)) (fun k => tie _) k (fun j hj => calls_ok (kn)) 400 Try.func82 (body := octet_Of.body) (res := [.tmp 4]) rfl (by kernel_rfl) octet_Of.cuts (kn) (fun x => by kernel_rfl), _, Try.func82, by kernel_rfl, by kernel_rfl⟩
/-! ### steeple/turn.point$1: function 127 -/
def turn_point_1.f (k : Nat) (a0 : S38) (a1 : Option Int) : Option Bool := (match a1 with | none => none | some r0 => (octet_Of.f k r0 a0).bind fun r1 => some (!r1))
def turn_point_1.sig (k : Nat) : Sig E.toTys := ⟨[.st 1, .ptr (.int .i64)], [(false, .bool)], none, fun x => f k x.1 x.2.1⟩
noncomputable def turn_point_1.body : Code := Try.f127.body.getD .skip
def turn_point_1.calls (k : Nat) : List (Nat × Sig E.toTys) := [(82, octet_Of.sig k)]
def turn_point_1.cuts : List (Cut E (RT E.toTys [(false, .bool)])) := []
theorem turn_point_1.ok (k : Nat) : Okf (XR E) Try.prog 127 (turn_point_1.sig k) := ⟨fn_ok (C := fun k => tab.ctx fun f => lk f (turn_point_1.calls k)) (fun k => tie _) k (fun j hj => calls_ok (kc (octet_Of.ok j) (kn))) 400 Try.func127 (body := turn_point_1.body) (res := [.tmp 3]) rfl (by kernel_rfl) turn_point_1.cuts (kn) (fun x => by kernel_rfl), _, Try.func127, by kernel_rfl, by kernel_rfl⟩
/-! ### slices.IndexFunc: function 159 -/
def slices_IndexFunc159_c127.l2 : Nat → List S38 → Int → Int → Int → Option Int
  | 0, _, _, _, _ => none
  | k + 1, x0, x1, x2, x3 => if x3 < x2 then (if 0 ≤ x3 then (if x3 < (x0.length : Int) then ((turn_point_1.f k (rd38 x0 x3) (some x1)).bind fun r0 => if r0 = true then some x3 else slices_IndexFunc159_c127.l2 k x0 x1 x2 (wrap64 (x3 + 1))) else none) else none) else some (-1)
def slices_IndexFunc159_c127.f (k : Nat) (a0 : List S38) (a1 : Int) : Option Int := slices_IndexFunc159_c127.l2 k a0 a1 (a0.length : Int) 0
def slices_IndexFunc159_c127.sig (k : Nat) : Sig E.toTys := ⟨[.slice (.st 1), .ext 127 (.int .i64)], [(false, .int .i64)], none, fun x => f k x.1 x.2.1⟩
noncomputable def slices_IndexFunc159_c127.body : Code := Try.f159.body.getD .skip
def slices_IndexFunc159_c127.calls (k : Nat) : List (Nat × Sig E.toTys) := [(127, turn_point_1.sig k)]
def slices_IndexFunc159_c127.cuts : List (Cut E (RT E.toTys [(false, .int .i64)])) := [⟨true, 2, ⟨cat [.one (.val (.slice (.st 1))), .one (.val (.ext 127 (.int .i64)))] (cat (ds 5) (cat [.one (.val (.int .i64)), .one (.val (.int .i64))] (ds 10))), [], false⟩, fun k x => slices_IndexFunc159_c127.l2 k x.1.1 x.1.2.1 x.1.2.2.1 x.1.2.2.2.1⟩]
theorem slices_IndexFunc159_c127.ok (k : Nat) : Okf (XR E) Try.prog 159 (slices_IndexFunc159_c127.sig k) := ⟨fn_ok (C := fun k => tab.ctx fun f => lk f (slices_IndexFunc159_c127.calls k)) (fun k => tie _) k (fun j hj => calls_ok (kc (turn_point_1.ok j) (kn))) 400 Try.func159 (body := slices_IndexFunc159_c127.body) (res := [.tmp 4]) rfl (by kernel_rfl) slices_IndexFunc159_c127.cuts (kc ⟨by kernel_rfl, rfl, fun _ => rfl, fun _ _ => by kernel_rfl⟩ (kn)) (fun x => by kernel_rfl), _, Try.func159, by kernel_rfl, by kernel_rfl⟩
/-! ### slices.ContainsFunc: function 126 -/
def slices_ContainsFunc126_c127.f (k : Nat) (a0 : List S38) (a1 : Int) : Option Bool := (slices_IndexFunc159_c127.f k a0 a1).bind fun r0 => some (decide (r0 ≥ 0))
def slices_ContainsFunc126_c127.sig (k : Nat) : Sig E.toTys := ⟨[.slice (.st 1), .ext 127 (.int .i64)], [(false, .bool)], none, fun x => f k x.1 x.2.1⟩
noncomputable def slices_ContainsFunc126_c127.body : Code := Try.f126.body.getD .skip
def slices_ContainsFunc126_c127.calls (k : Nat) : List (Nat × Sig E.toTys) := [(159, slices_IndexFunc159_c127.sig k)]
def slices_ContainsFunc126_c127.cuts : List (Cut E (RT E.toTys [(false, .bool)])) := []
theorem slices_ContainsFunc126_c127.ok (k : Nat) : Okf (XR E) Try.prog 126 (slices_ContainsFunc126_c127.sig k) := ⟨fn_ok (C := fun k => tab.ctx fun f => lk f (slices_ContainsFunc126_c127.calls k)) (fun k => tie _) k (fun j hj => calls_ok (kc (slices_IndexFunc159_c127.ok j) (kn))) 400 Try.func126 (body := slices_ContainsFunc126_c127.body) (res := [.tmp 4]) rfl (by kernel_rfl) slices_ContainsFunc126_c127.cuts (kn) (fun x => by kernel_rfl), _, Try.func126, by kernel_rfl, by kernel_rfl⟩
/-! ### steeple/turn.point: function 78 -/
def turn_point.f (k : Nat) (a0 : Int) (a1 : Int) (a2 : List S38) : Option Int := if (a2.length : Int) = a1 then ((slices_ContainsFunc126_c127.f k a2 a0).bind fun r0 => if r0 = true then some 5 else some 0) else some 6
def turn_point.sig (k : Nat) : Sig E.toTys := ⟨[.int .i64, .int .i64, .slice (.st 1)], [(false, .int .i64)], none, fun x => f k x.1 x.2.1 x.2.2.1⟩
noncomputable def turn_point.body : Code := Try.f78.body.getD .skip
def turn_point.calls (k : Nat) : List (Nat × Sig E.toTys) := [(126, slices_ContainsFunc126_c127.sig k)]
def turn_point.cuts : List (Cut E (RT E.toTys [(false, .int .i64)])) := []
theorem turn_point.ok (k : Nat) : Okf (XR E) Try.prog 78 (turn_point.sig k) := ⟨fn_ok (C := fun k => tab.ctx fun f => lk f (turn_point.calls k)) (fun k => tie _) k (fun j hj => calls_ok (kc (slices_ContainsFunc126_c127.ok j) (kn))) 400 Try.func78 (body := turn_point.body) (res := [.tmp 6]) rfl (by kernel_rfl) turn_point.cuts (kn) (fun x => by kernel_rfl), _, Try.func78, by kernel_rfl, by kernel_rfl⟩
/-! ### steeple/cube.of$1: function 160 -/
def cube_of_1.f (k : Nat) (a0 : S38) (a1 : Option Int) : Option Bool := (match a1 with | none => none | some r0 => (octet_Of.f k r0 a0).bind fun r1 => some (!r1))
def cube_of_1.sig (k : Nat) : Sig E.toTys := ⟨[.st 1, .ptr (.int .i64)], [(false, .bool)], none, fun x => f k x.1 x.2.1⟩
noncomputable def cube_of_1.body : Code := Try.f160.body.getD .skip
def cube_of_1.calls (k : Nat) : List (Nat × Sig E.toTys) := [(82, octet_Of.sig k)]
def cube_of_1.cuts : List (Cut E (RT E.toTys [(false, .bool)])) := []
theorem cube_of_1.ok (k : Nat) : Okf (XR E) Try.prog 160 (cube_of_1.sig k) := ⟨fn_ok (C := fun k => tab.ctx fun f => lk f (cube_of_1.calls k)) (fun k => tie _) k (fun j hj => calls_ok (kc (octet_Of.ok j) (kn))) 400 Try.func160 (body := cube_of_1.body) (res := [.tmp 3]) rfl (by kernel_rfl) cube_of_1.cuts (kn) (fun x => by kernel_rfl), _, Try.func160, by kernel_rfl, by kernel_rfl⟩
/-! ### slices.IndexFunc: function 159 -/
def slices_IndexFunc159_c160.l2 : Nat → List S38 → Int → Int → Int → Option Int
  | 0, _, _, _, _ => none
  | k + 1, x0, x1, x2, x3 => if x3 < x2 then (if 0 ≤ x3 then (if x3 < (x0.length : Int) then ((cube_of_1.f k (rd38 x0 x3) (some x1)).bind fun r0 => if r0 = true then some x3 else slices_IndexFunc159_c160.l2 k x0 x1 x2 (wrap64 (x3 + 1))) else none) else none) else some (-1)
def slices_IndexFunc159_c160.f (k : Nat) (a0 : List S38) (a1 : Int) : Option Int := slices_IndexFunc159_c160.l2 k a0 a1 (a0.length : Int) 0
def slices_IndexFunc159_c160.sig (k : Nat) : Sig E.toTys := ⟨[.slice (.st 1), .ext 160 (.int .i64)], [(false, .int .i64)], none, fun x => f k x.1 x.2.1⟩
noncomputable def slices_IndexFunc159_c160.body : Code := Try.f159.body.getD .skip
def slices_IndexFunc159_c160.calls (k : Nat) : List (Nat × Sig E.toTys) := [(160, cube_of_1.sig k)]
def slices_IndexFunc159_c160.cuts : List (Cut E (RT E.toTys [(false, .int .i64)])) := [⟨true, 2, ⟨cat [.one (.val (.slice (.st 1))), .one (.val (.ext 160 (.int .i64)))] (cat (ds 5) (cat [.one (.val (.int .i64)), .one (.val (.int .i64))] (ds 10))), [], false⟩, fun k x => slices_IndexFunc159_c160.l2 k x.1.1 x.1.2.1 x.1.2.2.1 x.1.2.2.2.1⟩]
theorem slices_IndexFunc159_c160.ok (k : Nat) : Okf (XR E) Try.prog 159 (slices_IndexFunc159_c160.sig k) := ⟨fn_ok (C := fun k => tab.ctx fun f => lk f (slices_IndexFunc159_c160.calls k)) (fun k => tie _) k (fun j hj => calls_ok (kc (cube_of_1.ok j) (kn))) 400 Try.func159 (body := slices_IndexFunc159_c160.body) (res := [.tmp 4]) rfl (by kernel_rfl) slices_IndexFunc159_c160.cuts (kc ⟨by kernel_rfl, rfl, fun _ => rfl, fun _ _ => by kernel_rfl⟩ (kn)) (fun x => by kernel_rfl), _, Try.func159, by kernel_rfl, by kernel_rfl⟩
/-! ### slices.ContainsFunc: function 126 -/
def slices_ContainsFunc126_c160.f (k : Nat) (a0 : List S38) (a1 : Int) : Option Bool := (slices_IndexFunc159_c160.f k a0 a1).bind fun r0 => some (decide (r0 ≥ 0))
def slices_ContainsFunc126_c160.sig (k : Nat) : Sig E.toTys := ⟨[.slice (.st 1), .ext 160 (.int .i64)], [(false, .bool)], none, fun x => f k x.1 x.2.1⟩
noncomputable def slices_ContainsFunc126_c160.body : Code := Try.f126.body.getD .skip
def slices_ContainsFunc126_c160.calls (k : Nat) : List (Nat × Sig E.toTys) := [(159, slices_IndexFunc159_c160.sig k)]
def slices_ContainsFunc126_c160.cuts : List (Cut E (RT E.toTys [(false, .bool)])) := []
theorem slices_ContainsFunc126_c160.ok (k : Nat) : Okf (XR E) Try.prog 126 (slices_ContainsFunc126_c160.sig k) := ⟨fn_ok (C := fun k => tab.ctx fun f => lk f (slices_ContainsFunc126_c160.calls k)) (fun k => tie _) k (fun j hj => calls_ok (kc (slices_IndexFunc159_c160.ok j) (kn))) 400 Try.func126 (body := slices_ContainsFunc126_c160.body) (res := [.tmp 4]) rfl (by kernel_rfl) slices_ContainsFunc126_c160.cuts (kn) (fun x => by kernel_rfl), _, Try.func126, by kernel_rfl, by kernel_rfl⟩
/-! ### steeple/cube.of: function 128 -/
def cube_of.f (k : Nat) (a0 : Int) (a1 : List S38) : Option Bool := (slices_ContainsFunc126_c160.f k a1 a0).bind fun r0 => some (!r0)
def cube_of.sig (k : Nat) : Sig E.toTys := ⟨[.int .i64, .slice (.st 1)], [(false, .bool)], none, fun x => f k x.1 x.2.1⟩
noncomputable def cube_of.body : Code := Try.f128.body.getD .skip
def cube_of.calls (k : Nat) : List (Nat × Sig E.toTys) := [(126, slices_ContainsFunc126_c160.sig k)]
def cube_of.cuts : List (Cut E (RT E.toTys [(false, .bool)])) := []
theorem cube_of.ok (k : Nat) : Okf (XR E) Try.prog 128 (cube_of.sig k) := ⟨fn_ok (C := fun k => tab.ctx fun f => lk f (cube_of.calls k)) (fun k => tie _) k (fun j hj => calls_ok (kc (slices_ContainsFunc126_c160.ok j) (kn))) 400 Try.func128 (body := cube_of.body) (res := [.tmp 4]) rfl (by kernel_rfl) cube_of.cuts (kn) (fun x => by kernel_rfl), _, Try.func128, by kernel_rfl, by kernel_rfl⟩
/-! ### steeple/tower.One: function 98 -/
def tower_One.f (k : Nat) : Option S38 := some (⟨0, 1⟩ : S38)
def tower_One.sig (k : Nat) : Sig E.toTys := ⟨[], [(false, .st 1)], none, fun x => f k⟩
noncomputable def tower_One.body : Code := Try.f98.body.getD .skip
def tower_One.calls (k : Nat) : List (Nat × Sig E.toTys) := []
def tower_One.cuts : List (Cut E (RT E.toTys [(false, .st 1)])) := []
theorem tower_One.ok (k : Nat) : Okf (XR E) Try.prog 98 (tower_One.sig k) := ⟨fn_ok (C := fun k => tab.ctx fun f => lk f (tower_One.calls k)) (fun k => tie _) k (fun j hj => calls_ok (kn)) 400 Try.func98 (body := tower_One.body) (res := [.cell 0 38]) rfl (by kernel_rfl) tower_One.cuts (kn) (fun x => by kernel_rfl), _, Try.func98, by kernel_rfl, by kernel_rfl⟩
/-! ### steeple/tower.halves: function 161 -/
def tower_halves.f (k : Nat) (a0 : Int) (a1 : Int) : Option (Int × Int) := if 0 ≤ wrap64 (a0 - 1) then (if 0 ≤ shl .i64 1 (wrap64 (a0 - 1)) then (if 0 ≤ shl .i64 1 (wrap64 (a0 - 1)) then some (shr .u64 a1 (shl .i64 1 (wrap64 (a0 - 1))), bits .and .u64 a1 (IntKind.u64.wrap ((shl .u64 1 (shl .i64 1 (wrap64 (a0 - 1)))) - 1))) else none) else none) else none
def tower_halves.sig (k : Nat) : Sig E.toTys := ⟨[.int .i64, .int .u64], [(false, .int .u64), (false, .int .u64)], none, fun x => f k x.1 x.2.1⟩
noncomputable def tower_halves.body : Code := Try.f161.body.getD .skip
def tower_halves.calls (k : Nat) : List (Nat × Sig E.toTys) := []
def tower_halves.cuts : List (Cut E (RT E.toTys [(false, .int .u64), (false, .int .u64)])) := []
theorem tower_halves.ok (k : Nat) : Okf (XR E) Try.prog 161 (tower_halves.sig k) := ⟨fn_ok (C := fun k => tab.ctx fun f => lk f (tower_halves.calls k)) (fun k => tie _) k (fun j hj => calls_ok (kn)) 400 Try.func161 (body := tower_halves.body) (res := [.tmp 4, .tmp 5]) rfl (by kernel_rfl) tower_halves.cuts (kn) (fun x => by kernel_rfl), _, Try.func161, by kernel_rfl, by kernel_rfl⟩
/-! ### steeple/tower.join: function 162 -/
def tower_join.f (k : Nat) (a0 : Int) (a1 : Int) (a2 : Int) : Option Int := if 0 ≤ wrap64 (a0 - 1) then (if 0 ≤ shl .u64 1 (wrap64 (a0 - 1)) then some (bits .or .u64 (shl .u64 a1 (shl .u64 1 (wrap64 (a0 - 1)))) a2) else none) else none
def tower_join.sig (k : Nat) : Sig E.toTys := ⟨[.int .i64, .int .u64, .int .u64], [(false, .int .u64)], none, fun x => f k x.1 x.2.1 x.2.2.1⟩
noncomputable def tower_join.body : Code := Try.f162.body.getD .skip
def tower_join.calls (k : Nat) : List (Nat × Sig E.toTys) := []
def tower_join.cuts : List (Cut E (RT E.toTys [(false, .int .u64)])) := []
theorem tower_join.ok (k : Nat) : Okf (XR E) Try.prog 162 (tower_join.sig k) := ⟨fn_ok (C := fun k => tab.ctx fun f => lk f (tower_join.calls k)) (fun k => tie _) k (fun j hj => calls_ok (kn)) 400 Try.func162 (body := tower_join.body) (res := [.tmp 6]) rfl (by kernel_rfl) tower_join.cuts (kn) (fun x => by kernel_rfl), _, Try.func162, by kernel_rfl, by kernel_rfl⟩
/-! ### steeple/tower.mulX: function 130 -/
def tower_mulX.f : Nat → Int → Int → Option Int
  | 0, _, _ => none
  | k + 1, a0, a1 => if a0 = 0 then some a1 else (tower_halves.f k a0 a1).bind fun r0 => (tower_mulX.f k (wrap64 (a0 - 1)) r0.1).bind fun r1 => (tower_join.f k a0 (bits .xor .u64 r0.2 r1) r0.1).bind fun r2 => some r2
def tower_mulX.sig (k : Nat) : Sig E.toTys := ⟨[.int .i64, .int .u64], [(false, .int .u64)], none, fun x => f k x.1 x.2.1⟩
noncomputable def tower_mulX.body : Code := Try.f130.body.getD .skip
def tower_mulX.calls (k : Nat) : List (Nat × Sig E.toTys) := [(161, tower_halves.sig k), (130, tower_mulX.sig k), (162, tower_join.sig k)]
def tower_mulX.cuts : List (Cut E (RT E.toTys [(false, .int .u64)])) := []
theorem tower_mulX.oks (k : Nat) : Okf (XR E) Try.prog 130 (tower_mulX.sig k) := by
  induction k using Nat.strongRecOn with
  | ind k ih =>
  cases k with
  | zero => exact ⟨ok0 fun _ => rfl, _, Try.func130, by kernel_rfl, by kernel_rfl⟩
  | succ k => exact ⟨fn_ok (C := fun k => tab.ctx fun f => lk f (tower_mulX.calls k)) (fun k => tie _) k (fun j hj => calls_ok (kc (tower_halves.ok j) (kc (ih j (Nat.lt_succ_of_le hj)) (kc (tower_join.ok j) (kn))))) 400 Try.func130 (body := tower_mulX.body) (res := [.tmp 4]) rfl (by kernel_rfl) tower_mulX.cuts (kn) (fun x => by kernel_rfl), _, Try.func130, by kernel_rfl, by kernel_rfl⟩
theorem tower_mulX.ok (k : Nat) : Okf (XR E) Try.prog 130 (tower_mulX.sig k) := (tower_mulX.oks k)
/-! ### steeple/tower.mul: function 129 -/
mutual
def tower_mul.j2 : Nat → Int → Int → Option Int
  | 0, _, _ => none
  | k + 1, x0, x1 => some (bits .and .u64 (bits .and .u64 x0 x1) 1)
def tower_mul.f : Nat → Int → Int → Int → Option Int
  | 0, _, _, _ => none
  | k + 1, a0, a1, a2 => if a0 = 0 then tower_mul.j2 k a1 a2 else if a1 = 0 then tower_mul.j2 k a1 a2 else if a2 = 0 then tower_mul.j2 k a1 a2 else (tower_halves.f k a0 a1).bind fun r0 => (tower_halves.f k a0 a2).bind fun r1 => (tower_mul.f k (wrap64 (a0 - 1)) r0.1 r1.1).bind fun r2 => (tower_mul.f k (wrap64 (a0 - 1)) r0.2 r1.2).bind fun r3 => (tower_mul.f k (wrap64 (a0 - 1)) (bits .xor .u64 r0.1 r0.2) (bits .xor .u64 r1.1 r1.2)).bind fun r4 => (tower_mulX.f k (wrap64 (a0 - 1)) r2).bind fun r5 => (tower_join.f k a0 (bits .xor .u64 (bits .xor .u64 (bits .xor .u64 r4 r2) r3) r5) (bits .xor .u64 r3 r2)).bind fun r6 => some r6
end
def tower_mul.sig (k : Nat) : Sig E.toTys := ⟨[.int .i64, .int .u64, .int .u64], [(false, .int .u64)], none, fun x => f k x.1 x.2.1 x.2.2.1⟩
noncomputable def tower_mul.body : Code := Try.f129.body.getD .skip
def tower_mul.calls (k : Nat) : List (Nat × Sig E.toTys) := [(161, tower_halves.sig k), (129, tower_mul.sig k), (130, tower_mulX.sig k), (162, tower_join.sig k)]
def tower_mul.cuts : List (Cut E (RT E.toTys [(false, .int .u64)])) := [⟨false, 2, ⟨cat (ds 1) (cat [.one (.val (.int .u64)), .one (.val (.int .u64))] (ds 71)), [], false⟩, fun k x => tower_mul.j2 k x.1.1 x.1.2.1⟩]
theorem tower_mul.oks (k : Nat) : Okf (XR E) Try.prog 129 (tower_mul.sig k) := by
  induction k using Nat.strongRecOn with
  | ind k ih =>
  cases k with
  | zero => exact ⟨ok0 fun _ => rfl, _, Try.func129, by kernel_rfl, by kernel_rfl⟩
  | succ k => exact ⟨fn_ok (C := fun k => tab.ctx fun f => lk f (tower_mul.calls k)) (fun k => tie _) k (fun j hj => calls_ok (kc (tower_halves.ok j) (kc (ih j (Nat.lt_succ_of_le hj)) (kc (tower_mulX.ok j) (kc (tower_join.ok j) (kn)))))) 400 Try.func129 (body := tower_mul.body) (res := [.tmp 6]) rfl (by kernel_rfl) tower_mul.cuts (kc ⟨by kernel_rfl, rfl, fun _ => rfl, fun _ _ => by kernel_rfl⟩ (kn)) (fun x => by kernel_rfl), _, Try.func129, by kernel_rfl, by kernel_rfl⟩
theorem tower_mul.ok (k : Nat) : Okf (XR E) Try.prog 129 (tower_mul.sig k) := (tower_mul.oks k)
/-! ### steeple/tower.Mul: function 83 -/
def tower_Mul.f (k : Nat) (a0 : Int) (a1 : S38) (a2 : S38) : Option S38 := (octet_Of.f k a0 a1).bind fun r0 => if (!r0) = true then some (⟨0, 0⟩ : S38) else (octet_Of.f k a0 a2).bind fun r1 => if (!r1) = true then some (⟨0, 0⟩ : S38) else if a0 ≤ 6 then ((tower_mul.f k a0 a1.f1 a2.f1).bind fun r2 => some (⟨0, r2⟩ : S38)) else (tower_mul.f k 6 a1.f0 a2.f0).bind fun r3 => (tower_mul.f k 6 a1.f1 a2.f1).bind fun r4 => (tower_mul.f k 6 (bits .xor .u64 a1.f0 a1.f1) (bits .xor .u64 a2.f0 a2.f1)).bind fun r5 => (tower_mulX.f k 6 r3).bind fun r6 => some (⟨bits .xor .u64 (bits .xor .u64 (bits .xor .u64 r5 r3) r4) r6, bits .xor .u64 r4 r3⟩ : S38)
def tower_Mul.sig (k : Nat) : Sig E.toTys := ⟨[.int .i64, .st 1, .st 1], [(false, .st 1)], none, fun x => f k x.1 x.2.1 x.2.2.1⟩
noncomputable def tower_Mul.body : Code := Try.f83.body.getD .skip
def tower_Mul.calls (k : Nat) : List (Nat × Sig E.toTys) := [(82, octet_Of.sig k), (129, tower_mul.sig k), (130, tower_mulX.sig k)]
def tower_Mul.cuts : List (Cut E (RT E.toTys [(false, .st 1)])) := []
theorem tower_Mul.ok (k : Nat) : Okf (XR E) Try.prog 83 (tower_Mul.sig k) := ⟨fn_ok (C := fun k => tab.ctx fun f => lk f (tower_Mul.calls k)) (fun k => tie _) k (fun j hj => calls_ok (kc (octet_Of.ok j) (kc (tower_mul.ok j) (kc (tower_mulX.ok j) (kn))))) 400 Try.func83 (body := tower_Mul.body) (res := [.cell 6 38]) rfl (by kernel_rfl) tower_Mul.cuts (kn) (fun x => by kernel_rfl), _, Try.func83, by kernel_rfl, by kernel_rfl⟩
/-! ### steeple/tower.Add: function 80 -/
def tower_Add.f (k : Nat) (a0 : S38) (a1 : S38) : Option S38 := some (⟨bits .xor .u64 a0.f0 a1.f0, bits .xor .u64 a0.f1 a1.f1⟩ : S38)
def tower_Add.sig (k : Nat) : Sig E.toTys := ⟨[.st 1, .st 1], [(false, .st 1)], none, fun x => f k x.1 x.2.1⟩
noncomputable def tower_Add.body : Code := Try.f80.body.getD .skip
def tower_Add.calls (k : Nat) : List (Nat × Sig E.toTys) := []
def tower_Add.cuts : List (Cut E (RT E.toTys [(false, .st 1)])) := []
theorem tower_Add.ok (k : Nat) : Okf (XR E) Try.prog 80 (tower_Add.sig k) := ⟨fn_ok (C := fun k => tab.ctx fun f => lk f (tower_Add.calls k)) (fun k => tie _) k (fun j hj => calls_ok (kn)) 400 Try.func80 (body := tower_Add.body) (res := [.cell 4 38]) rfl (by kernel_rfl) tower_Add.cuts (kn) (fun x => by kernel_rfl), _, Try.func80, by kernel_rfl, by kernel_rfl⟩
/-! ### steeple/cube.Weights: function 79 -/
mutual
def cube_Weights.l5 : Nat → Int → List S38 → Int → Int → List S38 → Option (List S38)
  | 0, _, _, _, _, _ => none
  | k + 1, x0, x1, x2, x3, x4 => if x3 < x2 then (if 0 ≤ x3 then (if x3 < (x1.length : Int) then (if 0 ≤ (x4.length : Int) then (if (x4.length : Int) ≤ 140737488355328 / ((16 : Nat) : Int) then cube_Weights.l9 k x0 x1 x2 x3 (x4.length : Int) 0 x4 (rd38 x1 x3).f0 (rd38 x1 x3).f1 (List.replicate (Int.toNat (x4.length : Int)) z38) else none) else none) else none) else none) else some x4
def cube_Weights.l9 : Nat → Int → List S38 → Int → Int → Int → Int → List S38 → Int → Int → List S38 → Option (List S38)
  | 0, _, _, _, _, _, _, _, _, _, _ => none
  | k + 1, x0, x1, x2, x3, x4, x5, x6, x7, x8, x9 => if x5 < x4 then (if 0 ≤ x5 then (if x5 < (x6.length : Int) then ((tower_Mul.f k x0 (rd38 x6 x5) (⟨x7, x8⟩ : S38)).bind fun r3 => if 0 ≤ x5 then (if x5 < (x9.length : Int) then (if 0 ≤ x5 then (if x5 < ((x9.set (Int.toNat x5) r3).length : Int) then ((tower_Add.f k (rd38 x6 x5) (rd38 (x9.set (Int.toNat x5) r3) x5)).bind fun r4 => if 0 ≤ x5 then (if x5 < (x6.length : Int) then cube_Weights.l9 k x0 x1 x2 x3 x4 (wrap64 (x5 + 1)) (x6.set (Int.toNat x5) r4) x7 x8 (x9.set (Int.toNat x5) r3) else none) else none) else none) else none) else none) else none) else none) else none) else if x6.length + x9.length ≤ 140737488355328 / 16 then cube_Weights.l5 k x0 x1 x2 (wrap64 (x3 + 1)) (x6 ++ x9) else none
end
def cube_Weights.f (k : Nat) (a0 : Int) (a1 : List S38) : Option (List S38) := (octet_Wide.f k a0).bind fun r0 => if r0 = 0 then some [] else if (a1.length : Int) > 16 then some [] else (cube_of.f k a0 a1).bind fun r1 => if (!r1) = true then some [] else (tower_One.f k).bind fun r2 => cube_Weights.l5 k a0 a1 (a1.length : Int) 0 [r2]
def cube_Weights.sig (k : Nat) : Sig E.toTys := ⟨[.int .i64, .slice (.st 1)], [(true, .slice (.st 1))], none, fun x => f k x.1 x.2.1⟩
noncomputable def cube_Weights.body : Code := Try.f79.body.getD .skip
def cube_Weights.calls (k : Nat) : List (Nat × Sig E.toTys) := [(77, octet_Wide.sig k), (128, cube_of.sig k), (98, tower_One.sig k), (83, tower_Mul.sig k), (80, tower_Add.sig k)]
def cube_Weights.cuts : List (Cut E (RT E.toTys [(true, .slice (.st 1))])) := [⟨true, 5, ⟨cat [.one (.val (.int .i64))] (cat (ds 4) (cat [.one (.ref 0)] (cat (ds 21) (cat [.one (.val (.slice (.st 1))), .one (.val (.int .i64)), .one (.val (.int .i64))] (ds 35))))), [.arr (.st 1)], false⟩, fun k x => cube_Weights.l5 k x.1.1 x.1.2.1 x.1.2.2.1 x.1.2.2.2.1 x.2.1⟩,
  ⟨true, 9, ⟨cat [.one (.val (.int .i64))] (cat (ds 4) (cat [.one (.ref 0)] (cat (ds 1) (cat [.one (.ptr 1 0), .one (.ref 2)] (cat (ds 18) (cat [.one (.val (.slice (.st 1))), .one (.val (.int .i64)), .one (.val (.int .i64))] (cat (ds 6) (cat [.one (.ref 0), .one (.val (.int .i64)), .one (.val (.int .i64))] (ds 26))))))))), [.arr (.st 1), .var [.val (.int .u64), .val (.int .u64)], .arr (.st 1)], false⟩, fun k x => cube_Weights.l9 k x.1.1 x.1.2.1 x.1.2.2.1 x.1.2.2.2.1 x.1.2.2.2.2.1 x.1.2.2.2.2.2.1 x.2.1 x.2.2.1.1 x.2.2.1.2.1 x.2.2.2.1⟩]
theorem cube_Weights.ok (k : Nat) : Okf (XR E) Try.prog 79 (cube_Weights.sig k) := ⟨fn_ok (C := fun k => tab.ctx fun f => lk f (cube_Weights.calls k)) (fun k => tie _) k (fun j hj => calls_ok (kc (octet_Wide.ok j) (kc (cube_of.ok j) (kc (tower_One.ok j) (kc (tower_Mul.ok j) (kc (tower_Add.ok j) (kn))))))) 400 Try.func79 (body := cube_Weights.body) (res := [.tmp 4]) rfl (by kernel_rfl) cube_Weights.cuts (kc ⟨by kernel_rfl, rfl, fun _ => rfl, fun _ _ => by kernel_rfl⟩ (kc ⟨by kernel_rfl, rfl, fun _ => rfl, fun _ _ => by kernel_rfl⟩ (kn))) (fun x => by kernel_rfl), _, Try.func79, by kernel_rfl, by kernel_rfl⟩
/-! ### steeple/turn.Row: function 18 -/
def turn_Row.l8 : Nat → Int → Int → Int → Int → Int → List S38 → List S38 → Option ((List S38) × Int)
  | 0, _, _, _, _, _, _, _ => none
  | k + 1, x0, x1, x2, x3, x4, x5, x6 => if x4 < x3 then (if 0 ≤ x4 then (if x4 < (x6.length : Int) then ((turn_From.f k x0 x1 x2 x4).bind fun r4 => if r4 ≥ 0 then (if 0 ≤ r4 then (if r4 < (x5.length : Int) then ((tower_Add.f k (rd38 x5 r4) (rd38 x6 x4)).bind fun r5 => if 0 ≤ r4 then (if r4 < (x5.length : Int) then turn_Row.l8 k x0 x1 x2 x3 (wrap64 (x4 + 1)) (x5.set (Int.toNat r4) r5) x6 else none) else none) else none) else none) else turn_Row.l8 k x0 x1 x2 x3 (wrap64 (x4 + 1)) x5 x6) else none) else none) else some (x5, 0)
def turn_Row.f (k : Nat) (a0 : Int) (a1 : Int) (a2 : Int) (a3 : Int) (a4 : List S38) : Option ((List S38) × Int) := (octet_Wide.f k a0).bind fun r0 => if r0 = 0 then some ([], 1) else (turn_Fits.f k a1 a2 a3).bind fun r1 => if (!r1) = true then some ([], 1) else (turn_point.f k a0 a2 a4).bind fun r2 => if r2 = 0 then (if 0 ≤ a2 then (if 0 ≤ shl .i64 1 a2 then (if shl .i64 1 a2 ≤ 140737488355328 / ((16 : Nat) : Int) then ((cube_Weights.f k a0 a4).bind fun r3 => turn_Row.l8 k a1 a2 a3 (r3.length : Int) 0 (List.replicate (Int.toNat (shl .i64 1 a2)) z38) r3) else none) else none) else none) else some ([], r2)
def turn_Row.sig (k : Nat) : Sig E.toTys := ⟨[.int .i64, .int .i64, .int .i64, .int .i64, .slice (.st 1)], [(true, .slice (.st 1)), (false, .int .i64)], none, fun x => f k x.1 x.2.1 x.2.2.1 x.2.2.2.1 x.2.2.2.2.1⟩
noncomputable def turn_Row.body : Code := Try.f18.body.getD .skip
def turn_Row.calls (k : Nat) : List (Nat × Sig E.toTys) := [(77, octet_Wide.sig k), (75, turn_Fits.sig k), (78, turn_point.sig k), (79, cube_Weights.sig k), (76, turn_From.sig k), (80, tower_Add.sig k)]
def turn_Row.cuts : List (Cut E (RT E.toTys [(true, .slice (.st 1)), (false, .int .i64)])) := [⟨true, 8, ⟨cat (ds 1) (cat [.one (.val (.int .i64)), .one (.val (.int .i64)), .one (.val (.int .i64))] (cat (ds 9) (cat [.one (.ref 0)] (cat (ds 25) (cat [.one (.ref 1), .one (.val (.int .i64)), .one (.val (.int .i64))] (ds 22)))))), [.arr (.st 1), .arr (.st 1)], false⟩, fun k x => turn_Row.l8 k x.1.1 x.1.2.1 x.1.2.2.1 x.1.2.2.2.1 x.1.2.2.2.2.1 x.2.1 x.2.2.1⟩]
theorem turn_Row.ok (k : Nat) : Okf (XR E) Try.prog 18 (turn_Row.sig k) := ⟨fn_ok (C := fun k => tab.ctx fun f => lk f (turn_Row.calls k)) (fun k => tie _) k (fun j hj => calls_ok (kc (octet_Wide.ok j) (kc (turn_Fits.ok j) (kc (turn_point.ok j) (kc (cube_Weights.ok j) (kc (turn_From.ok j) (kc (tower_Add.ok j) (kn)))))))) 400 Try.func18 (body := turn_Row.body) (res := [.tmp 10, .tmp 11]) rfl (by kernel_rfl) turn_Row.cuts (kc ⟨by kernel_rfl, rfl, fun _ => rfl, fun _ _ => by kernel_rfl⟩ (kn)) (fun x => by kernel_rfl), _, Try.func18, by kernel_rfl, by kernel_rfl⟩
/-! ### steeple/steeplelaw18.elems: function 20 -/
def steeplelaw18_elems.l3 : Nat → List Bool → Int → List S38 → Option (List S38)
  | 0, _, _, _ => none
  | k + 1, x0, x1, x2 => if x1 < (x0.length : Int) then (if 0 ≤ x1 then (if x1 < (x0.length : Int) then (if (rdB x0 x1) = true then (if x2.length + [(⟨0, 1⟩ : S38)].length ≤ 140737488355328 / 16 then steeplelaw18_elems.l3 k x0 (wrap64 (x1 + 1)) (x2 ++ [(⟨0, 1⟩ : S38)]) else none) else if x2.length + [(⟨0, 0⟩ : S38)].length ≤ 140737488355328 / 16 then steeplelaw18_elems.l3 k x0 (wrap64 (x1 + 1)) (x2 ++ [(⟨0, 0⟩ : S38)]) else none) else none) else none) else some x2
def steeplelaw18_elems.f (k : Nat) (a0 : List Bool) : Option (List S38) := steeplelaw18_elems.l3 k a0 0 []
def steeplelaw18_elems.sig (k : Nat) : Sig E.toTys := ⟨[.slice .bool], [(true, .slice (.st 1))], none, fun x => f k x.1⟩
noncomputable def steeplelaw18_elems.body : Code := Try.f20.body.getD .skip
def steeplelaw18_elems.calls (k : Nat) : List (Nat × Sig E.toTys) := []
def steeplelaw18_elems.cuts : List (Cut E (RT E.toTys [(true, .slice (.st 1))])) := [⟨true, 3, ⟨cat [.one (.val (.slice .bool))] (cat (ds 2) (cat [.one (.ref 0), .one (.val (.int .i64))] (ds 18))), [.arr (.st 1)], false⟩, fun k x => steeplelaw18_elems.l3 k x.1.1 x.1.2.1 x.2.1⟩]
theorem steeplelaw18_elems.ok (k : Nat) : Okf (XR E) Try.prog 20 (steeplelaw18_elems.sig k) := ⟨fn_ok (C := fun k => tab.ctx fun f => lk f (steeplelaw18_elems.calls k)) (fun k => tie _) k (fun j hj => calls_ok (kn)) 400 Try.func20 (body := steeplelaw18_elems.body) (res := [.tmp 2]) rfl (by kernel_rfl) steeplelaw18_elems.cuts (kc ⟨by kernel_rfl, rfl, fun _ => rfl, fun _ _ => by kernel_rfl⟩ (kn)) (fun x => by kernel_rfl), _, Try.func20, by kernel_rfl, by kernel_rfl⟩
/-! ### steeple/cube.Log: function 81 -/
def cube_Log.l2 : Nat → Int → Int → Option Int
  | 0, _, _ => none
  | k + 1, x0, x1 => if x1 < 17 then (if 0 ≤ x1 then (if x0 = shl .i64 1 x1 then some x1 else cube_Log.l2 k x0 (wrap64 (x1 + 1))) else none) else some (-1)
def cube_Log.f (k : Nat) (a0 : Int) : Option Int := cube_Log.l2 k a0 0
def cube_Log.sig (k : Nat) : Sig E.toTys := ⟨[.int .i64], [(false, .int .i64)], none, fun x => f k x.1⟩
noncomputable def cube_Log.body : Code := Try.f81.body.getD .skip
def cube_Log.calls (k : Nat) : List (Nat × Sig E.toTys) := []
def cube_Log.cuts : List (Cut E (RT E.toTys [(false, .int .i64)])) := [⟨true, 2, ⟨cat [.one (.val (.int .i64))] (cat (ds 3) (cat [.one (.val (.int .i64))] (ds 8))), [], false⟩, fun k x => cube_Log.l2 k x.1.1 x.1.2.1⟩]
theorem cube_Log.ok (k : Nat) : Okf (XR E) Try.prog 81 (cube_Log.sig k) := ⟨fn_ok (C := fun k => tab.ctx fun f => lk f (cube_Log.calls k)) (fun k => tie _) k (fun j hj => calls_ok (kn)) 400 Try.func81 (body := cube_Log.body) (res := [.tmp 2]) rfl (by kernel_rfl) cube_Log.cuts (kc ⟨by kernel_rfl, rfl, fun _ => rfl, fun _ _ => by kernel_rfl⟩ (kn)) (fun x => by kernel_rfl), _, Try.func81, by kernel_rfl, by kernel_rfl⟩
/-! ### steeple/cube.ask: function 84 -/
def cube_ask.f (k : Nat) (a0 : Int) (a1 : List S38) (a2 : List S38) : Option Int := (cube_Log.f k (a1.length : Int)).bind fun r0 => (octet_Wide.f k a0).bind fun r1 => if r1 = 0 then some 1 else if r0 < 0 then some 6 else if (a2.length : Int) > r0 then some 6 else (cube_of.f k a0 a1).bind fun r2 => if (!r2) = true then some 5 else (cube_of.f k a0 a2).bind fun r3 => if (!r3) = true then some 5 else some 0
def cube_ask.sig (k : Nat) : Sig E.toTys := ⟨[.int .i64, .slice (.st 1), .slice (.st 1)], [(false, .int .i64)], none, fun x => f k x.1 x.2.1 x.2.2.1⟩
noncomputable def cube_ask.body : Code := Try.f84.body.getD .skip
def cube_ask.calls (k : Nat) : List (Nat × Sig E.toTys) := [(81, cube_Log.sig k), (77, octet_Wide.sig k), (128, cube_of.sig k)]
def cube_ask.cuts : List (Cut E (RT E.toTys [(false, .int .i64)])) := []
theorem cube_ask.ok (k : Nat) : Okf (XR E) Try.prog 84 (cube_ask.sig k) := ⟨fn_ok (C := fun k => tab.ctx fun f => lk f (cube_ask.calls k)) (fun k => tie _) k (fun j hj => calls_ok (kc (cube_Log.ok j) (kc (octet_Wide.ok j) (kc (cube_of.ok j) (kn))))) 400 Try.func84 (body := cube_ask.body) (res := [.tmp 6]) rfl (by kernel_rfl) cube_ask.cuts (kn) (fun x => by kernel_rfl), _, Try.func84, by kernel_rfl, by kernel_rfl⟩
/-! ### slices.Clone: function 85 -/
def slices_Clone85.f (k : Nat) (a0 : List S38) : Option (List S38) := if ([] : List Int).length + a0.length ≤ 140737488355328 / 16 then some ([] ++ a0) else none
def slices_Clone85.sig (k : Nat) : Sig E.toTys := ⟨[.slice (.st 1)], [(true, .slice (.st 1))], none, fun x => f k x.1⟩
noncomputable def slices_Clone85.body : Code := Try.f85.body.getD .skip
def slices_Clone85.calls (k : Nat) : List (Nat × Sig E.toTys) := []
def slices_Clone85.cuts : List (Cut E (RT E.toTys [(true, .slice (.st 1))])) := []
noncomputable def slices_Clone85.fn0 : Func := Try.f85
def slices_Clone85.st0 (xs : List S38) : St E.toTys := ⟨[.c (.s (.val (.slice (.st 1)) xs)), .c (.s .dead), .c (.s .emp), .c (.s .dead), .c (.s .dead), .c (.s .dead), .c (.s .dead), .c (.s .dead)], []⟩
theorem slices_Clone85.ok (k : Nat) : Okf (XR E) Try.prog 85 (slices_Clone85.sig k) := ⟨clone_ok (C := tab.ctx fun f => lk f (slices_Clone85.calls k)) (tie _) (calls_ok kn) (t := 25) (u := .st 1) Try.func85 rfl (res := [.tmp 2]) (by kernel_rfl) ⟨rfl, rfl, rfl⟩ ⟨rfl, rfl, rfl⟩ (by kernel_rfl) slices_Clone85.st0 (fun x => by kernel_rfl) (fun _ => rfl) (fun _ _ => ⟨rfl, rfl⟩) (F := fun x => slices_Clone85.f k x) (by kernel_rfl) (fun xs => by kernel_rfl), _, Try.func85, by kernel_rfl, by kernel_rfl⟩
/-! ### steeple/cube.between: function 86 -/
def cube_between.f (k : Nat) (a0 : Int) (a1 : S38) (a2 : S38) (a3 : S38) : Option S38 := (tower_Add.f k a1 a2).bind fun r0 => (tower_Mul.f k a0 a3 r0).bind fun r1 => (tower_Add.f k a1 r1).bind fun r2 => some r2
def cube_between.sig (k : Nat) : Sig E.toTys := ⟨[.int .i64, .st 1, .st 1, .st 1], [(false, .st 1)], none, fun x => f k x.1 x.2.1 x.2.2.1 x.2.2.2.1⟩
noncomputable def cube_between.body : Code := Try.f86.body.getD .skip
def cube_between.calls (k : Nat) : List (Nat × Sig E.toTys) := [(80, tower_Add.sig k), (83, tower_Mul.sig k)]
def cube_between.cuts : List (Cut E (RT E.toTys [(false, .st 1)])) := []
theorem cube_between.ok (k : Nat) : Okf (XR E) Try.prog 86 (cube_between.sig k) := ⟨fn_ok (C := fun k => tab.ctx fun f => lk f (cube_between.calls k)) (fun k => tie _) k (fun j hj => calls_ok (kc (tower_Add.ok j) (kc (tower_Mul.ok j) (kn)))) 400 Try.func86 (body := cube_between.body) (res := [.cell 8 38]) rfl (by kernel_rfl) cube_between.cuts (kn) (fun x => by kernel_rfl), _, Try.func86, by kernel_rfl, by kernel_rfl⟩
/-! ### steeple/cube.First: function 23 -/
mutual
def cube_First.l6 : Nat → Int → List S38 → Int → Int → List S38 → Option ((List S38) × Int)
  | 0, _, _, _, _, _ => none
  | k + 1, x0, x1, x2, x3, x4 => if x3 < x2 then (if 0 ≤ x3 then (if x3 < (x1.length : Int) then cube_First.l10 k x0 (wrap64 (Int.tdiv (x4.length : Int) 2)) x1 x2 x3 (wrap64 (Int.tdiv (x4.length : Int) 2)) 0 x4 (rd38 x1 x3).f0 (rd38 x1 x3).f1 else none) else none) else some (x4, 0)
def cube_First.l10 : Nat → Int → Int → List S38 → Int → Int → Int → Int → List S38 → Int → Int → Option ((List S38) × Int)
  | 0, _, _, _, _, _, _, _, _, _, _ => none
  | k + 1, x0, x1, x2, x3, x4, x5, x6, x7, x8, x9 => if x6 < x5 then (if 0 ≤ wrap64 (2 * x6) then (if wrap64 (2 * x6) < (x7.length : Int) then (if 0 ≤ wrap64 ((wrap64 (2 * x6)) + 1) then (if wrap64 ((wrap64 (2 * x6)) + 1) < (x7.length : Int) then ((cube_between.f k x0 (rd38 x7 (wrap64 (2 * x6))) (rd38 x7 (wrap64 ((wrap64 (2 * x6)) + 1))) (⟨x8, x9⟩ : S38)).bind fun r2 => if 0 ≤ x6 then (if x6 < (x7.length : Int) then cube_First.l10 k x0 x1 x2 x3 x4 x5 (wrap64 (x6 + 1)) (x7.set (Int.toNat x6) r2) x8 x9 else none) else none) else none) else none) else none) else none) else if 0 ≤ x1 then (if x1 ≤ (x7.length : Int) then cube_First.l6 k x0 x2 x3 (wrap64 (x4 + 1)) (x7.take (Int.toNat x1)) else none) else none
end
def cube_First.f (k : Nat) (a0 : Int) (a1 : List S38) (a2 : List S38) : Option ((List S38) × Int) := (cube_ask.f k a0 a1 a2).bind fun r0 => if r0 = 0 then ((slices_Clone85.f k a1).bind fun r1 => cube_First.l6 k a0 a2 (a2.length : Int) 0 r1) else some ([], r0)
def cube_First.sig (k : Nat) : Sig E.toTys := ⟨[.int .i64, .slice (.st 1), .slice (.st 1)], [(true, .slice (.st 1)), (false, .int .i64)], none, fun x => f k x.1 x.2.1 x.2.2.1⟩
noncomputable def cube_First.body : Code := Try.f23.body.getD .skip
def cube_First.calls (k : Nat) : List (Nat × Sig E.toTys) := [(84, cube_ask.sig k), (85, slices_Clone85.sig k), (86, cube_between.sig k)]
def cube_First.cuts : List (Cut E (RT E.toTys [(true, .slice (.st 1)), (false, .int .i64)])) := [⟨true, 6, ⟨cat [.one (.val (.int .i64))] (cat (ds 8) (cat [.one (.ref 0)] (cat (ds 13) (cat [.one (.val (.slice (.st 1))), .one (.val (.int .i64)), .one (.val (.int .i64))] (ds 33))))), [.arr (.st 1)], false⟩, fun k x => cube_First.l6 k x.1.1 x.1.2.1 x.1.2.2.1 x.1.2.2.2.1 x.2.1⟩,
  ⟨true, 10, ⟨cat [.one (.val (.int .i64))] (cat (ds 8) (cat [.one (.ref 0)] (cat (ds 1) (cat [.one (.ptr 1 0), .one (.val (.int .i64))] (cat (ds 10) (cat [.one (.val (.slice (.st 1))), .one (.val (.int .i64)), .one (.val (.int .i64))] (cat (ds 6) (cat [.one (.val (.int .i64)), .one (.val (.int .i64))] (ds 25))))))))), [.arr (.st 1), .var [.val (.int .u64), .val (.int .u64)]], false⟩, fun k x => cube_First.l10 k x.1.1 x.1.2.1 x.1.2.2.1 x.1.2.2.2.1 x.1.2.2.2.2.1 x.1.2.2.2.2.2.1 x.1.2.2.2.2.2.2.1 x.2.1 x.2.2.1.1 x.2.2.1.2.1⟩]
theorem cube_First.ok (k : Nat) : Okf (XR E) Try.prog 23 (cube_First.sig k) := ⟨fn_ok (C := fun k => tab.ctx fun f => lk f (cube_First.calls k)) (fun k => tie _) k (fun j hj => calls_ok (kc (cube_ask.ok j) (kc (slices_Clone85.ok j) (kc (cube_between.ok j) (kn))))) 400 Try.func23 (body := cube_First.body) (res := [.tmp 6, .tmp 7]) rfl (by kernel_rfl) cube_First.cuts (kc ⟨by kernel_rfl, rfl, fun _ => rfl, fun _ _ => by kernel_rfl⟩ (kc ⟨by kernel_rfl, rfl, fun _ => rfl, fun _ _ => by kernel_rfl⟩ (kn))) (fun x => by kernel_rfl), _, Try.func23, by kernel_rfl, by kernel_rfl⟩
/-! ### steeple/cube.At: function 19 -/
def cube_At.f (k : Nat) (a0 : Int) (a1 : List S38) (a2 : List S38) : Option (S38 × Int) := (octet_Wide.f k a0).bind fun r0 => if r0 = 0 then some ((⟨0, 0⟩ : S38), 1) else (cube_Log.f k (a1.length : Int)).bind fun r1 => if r1 = (a2.length : Int) then ((cube_First.f k a0 a1 a2).bind fun r2 => if r2.2 = 0 then (if 0 < (r2.1.length : Int) then some (rd38 r2.1 (0 : Int), 0) else none) else some ((⟨0, 0⟩ : S38), r2.2)) else some ((⟨0, 0⟩ : S38), 6)
def cube_At.sig (k : Nat) : Sig E.toTys := ⟨[.int .i64, .slice (.st 1), .slice (.st 1)], [(false, .st 1), (false, .int .i64)], none, fun x => f k x.1 x.2.1 x.2.2.1⟩
noncomputable def cube_At.body : Code := Try.f19.body.getD .skip
def cube_At.calls (k : Nat) : List (Nat × Sig E.toTys) := [(77, octet_Wide.sig k), (81, cube_Log.sig k), (23, cube_First.sig k)]
def cube_At.cuts : List (Cut E (RT E.toTys [(false, .st 1), (false, .int .i64)])) := []
theorem cube_At.ok (k : Nat) : Okf (XR E) Try.prog 19 (cube_At.sig k) := ⟨fn_ok (C := fun k => tab.ctx fun f => lk f (cube_At.calls k)) (fun k => tie _) k (fun j hj => calls_ok (kc (octet_Wide.ok j) (kc (cube_Log.ok j) (kc (cube_First.ok j) (kn))))) 400 Try.func19 (body := cube_At.body) (res := [.cell 6 38, .tmp 7]) rfl (by kernel_rfl) cube_At.cuts (kn) (fun x => by kernel_rfl), _, Try.func19, by kernel_rfl, by kernel_rfl⟩
/-! ### steeple/tower.Dot: function 21 -/
def tower_Dot.l5 : Nat → Int → List S38 → List S38 → Int → Int → Int → Int → Int → Int → Option S38
  | 0, _, _, _, _, _, _, _, _, _ => none
  | k + 1, x0, x1, x2, x3, x4, x5, x6, x7, x8 => if x4 < x3 then (if 0 ≤ x4 then (if x4 < (x1.length : Int) then ((octet_Of.f k x0 (rd38 x1 x4)).bind fun r0 => if (!r0) = true then some (⟨0, 0⟩ : S38) else if 0 ≤ x4 then (if x4 < (x2.length : Int) then ((octet_Of.f k x0 (rd38 x2 x4)).bind fun r1 => if (!r1) = true then some (⟨0, 0⟩ : S38) else if 0 ≤ x4 then (if x4 < (x1.length : Int) then (if 0 ≤ x4 then (if x4 < (x2.length : Int) then ((tower_Mul.f k x0 (rd38 x1 x4) (rd38 x2 x4)).bind fun r2 => (tower_Add.f k (⟨x7, x8⟩ : S38) r2).bind fun r3 => tower_Dot.l5 k x0 x1 x2 x3 (wrap64 (x4 + 1)) x5 x6 r3.f0 r3.f1) else none) else none) else none) else none) else none) else none) else none) else none) else some (⟨x7, x8⟩ : S38)
def tower_Dot.f (k : Nat) (a0 : Int) (a1 : List S38) (a2 : List S38) : Option S38 := if (a1.length : Int) = (a2.length : Int) then tower_Dot.l5 k a0 a1 a2 (a1.length : Int) 0 0 0 0 0 else some (⟨0, 0⟩ : S38)
def tower_Dot.sig (k : Nat) : Sig E.toTys := ⟨[.int .i64, .slice (.st 1), .slice (.st 1)], [(false, .st 1)], none, fun x => f k x.1 x.2.1 x.2.2.1⟩
noncomputable def tower_Dot.body : Code := Try.f21.body.getD .skip
def tower_Dot.calls (k : Nat) : List (Nat × Sig E.toTys) := [(82, octet_Of.sig k), (83, tower_Mul.sig k), (80, tower_Add.sig k)]
def tower_Dot.cuts : List (Cut E (RT E.toTys [(false, .st 1)])) := [⟨true, 5, ⟨cat [.one (.val (.int .i64)), .one (.val (.slice (.st 1))), .one (.val (.slice (.st 1)))] (cat (ds 3) (cat [.one (.ptr 0 0), .one (.ptr 1 0)] (cat (ds 8) (cat [.one (.val (.int .i64)), .one (.val (.int .i64))] (ds 33))))), [.var [.val (.int .u64), .val (.int .u64)], .var [.val (.int .u64), .val (.int .u64)]], false⟩, fun k x => tower_Dot.l5 k x.1.1 x.1.2.1 x.1.2.2.1 x.1.2.2.2.1 x.1.2.2.2.2.1 x.2.1.1 x.2.1.2.1 x.2.2.1.1 x.2.2.1.2.1⟩]
theorem tower_Dot.ok (k : Nat) : Okf (XR E) Try.prog 21 (tower_Dot.sig k) := ⟨fn_ok (C := fun k => tab.ctx fun f => lk f (tower_Dot.calls k)) (fun k => tie _) k (fun j hj => calls_ok (kc (octet_Of.ok j) (kc (tower_Mul.ok j) (kc (tower_Add.ok j) (kn))))) 400 Try.func21 (body := tower_Dot.body) (res := [.cell 6 38]) rfl (by kernel_rfl) tower_Dot.cuts (kc ⟨by kernel_rfl, rfl, fun _ => rfl, fun _ _ => by kernel_rfl⟩ (kn)) (fun x => by kernel_rfl), _, Try.func21, by kernel_rfl, by kernel_rfl⟩
/-! ### steeple/steeplelaw18.TurnValues: function 3 -/
def steeplelaw18_TurnValues.j2 : Nat → Option Bool
  | 0 => none
  | k + 1 => (steeplelaw18_awake.f k).bind fun r9 => some r9
def steeplelaw18_TurnValues.f (k : Nat) (a0 : Int) (a1 : S23) (a2 : S27) : Option Bool := (steepleref18_Fits.f k a1.f0 a1.f1 a1.f2).bind fun r0 => if (!r0) = true then steeplelaw18_TurnValues.j2 k else if a1.f1 > 5 then steeplelaw18_TurnValues.j2 k else if 0 ≤ a1.f1 then (if a1.f1 < ([1, 2, 4, 8, 16, 32].length : Int) then (if (a2.f0.length : Int) = rdI [1, 2, 4, 8, 16, 32] a1.f1 then (if (a2.f1.length : Int) > 5 then steeplelaw18_TurnValues.j2 k else (turn_Bits.f k a1.f0 a1.f1 a1.f2 a2.f0).bind fun r1 => (turn_Row.f k a0 a1.f0 a1.f1 a1.f2 a2.f1).bind fun r2 => if r1.2 = 0 then (if r2.2 = 0 then ((steeplelaw18_elems.f k r1.1).bind fun r3 => (cube_At.f k a0 r3 a2.f1).bind fun r4 => (steeplelaw18_awake.f k).bind fun r5 => if r5 = true then (if r4.2 = 0 then ((steeplelaw18_elems.f k a2.f0).bind fun r6 => (tower_Dot.f k a0 r2.1 r6).bind fun r7 => some (decide (r4.1.f0 = r7.f0 ∧ r4.1.f1 = r7.f1))) else some false) else some false) else (steeplelaw18_awake.f k).bind fun r8 => some r8) else some false) else steeplelaw18_TurnValues.j2 k) else none) else none
def steeplelaw18_TurnValues.sig (k : Nat) : Sig E.toTys := ⟨[.int .i64, .st 0, .st 2], [(false, .bool)], none, fun x => f k x.1 x.2.1 x.2.2.1⟩
noncomputable def steeplelaw18_TurnValues.body : Code := Try.f3.body.getD .skip
def steeplelaw18_TurnValues.calls (k : Nat) : List (Nat × Sig E.toTys) := [(15, steepleref18_Fits.sig k), (17, turn_Bits.sig k), (18, turn_Row.sig k), (20, steeplelaw18_elems.sig k), (19, cube_At.sig k), (16, steeplelaw18_awake.sig k), (21, tower_Dot.sig k)]
def steeplelaw18_TurnValues.cuts : List (Cut E (RT E.toTys [(false, .bool)])) := [⟨false, 2, ⟨ds 98, [], false⟩, fun k x => steeplelaw18_TurnValues.j2 k⟩]
theorem steeplelaw18_TurnValues.ok (k : Nat) : Okf (XR E) Try.prog 3 (steeplelaw18_TurnValues.sig k) := ⟨fn_ok (C := fun k => tab.ctx fun f => lk f (steeplelaw18_TurnValues.calls k)) (fun k => tie _) k (fun j hj => calls_ok (kc (steepleref18_Fits.ok j) (kc (turn_Bits.ok j) (kc (turn_Row.ok j) (kc (steeplelaw18_elems.ok j) (kc (cube_At.ok j) (kc (steeplelaw18_awake.ok j) (kc (tower_Dot.ok j) (kn))))))))) 400 Try.func3 (body := steeplelaw18_TurnValues.body) (res := [.tmp 6]) rfl (by kernel_rfl) steeplelaw18_TurnValues.cuts (kc ⟨by kernel_rfl, rfl, fun _ => rfl, fun _ _ => by kernel_rfl⟩ (kn)) (fun x => by kernel_rfl), _, Try.func3, by kernel_rfl, by kernel_rfl⟩
/-! ### steeple/steeplelaw15.awake: function 22 -/
def steeplelaw15_awake.f (k : Nat) : Option Bool := (cube_At.f k 2 [(⟨0, 1⟩ : S38), (⟨0, 2⟩ : S38)] [(⟨0, 3⟩ : S38)]).bind fun r0 => if r0.2 = 0 then (if r0.1.f0 = 0 ∧ r0.1.f1 = 3 then ((cube_Log.f k 8).bind fun r1 => some (decide (r1 = 3))) else some false) else some false
def steeplelaw15_awake.sig (k : Nat) : Sig E.toTys := ⟨[], [(false, .bool)], none, fun x => f k⟩
noncomputable def steeplelaw15_awake.body : Code := Try.f22.body.getD .skip
def steeplelaw15_awake.calls (k : Nat) : List (Nat × Sig E.toTys) := [(19, cube_At.sig k), (81, cube_Log.sig k)]
def steeplelaw15_awake.cuts : List (Cut E (RT E.toTys [(false, .bool)])) := []
theorem steeplelaw15_awake.ok (k : Nat) : Okf (XR E) Try.prog 22 (steeplelaw15_awake.sig k) := ⟨fn_ok (C := fun k => tab.ctx fun f => lk f (steeplelaw15_awake.calls k)) (fun k => tie _) k (fun j hj => calls_ok (kc (cube_At.ok j) (kc (cube_Log.ok j) (kn)))) 400 Try.func22 (body := steeplelaw15_awake.body) (res := [.tmp 0]) rfl (by kernel_rfl) steeplelaw15_awake.cuts (kn) (fun x => by kernel_rfl), _, Try.func22, by kernel_rfl, by kernel_rfl⟩
end Go.Proofs.Ytdpbogooceiaaaa.B
namespace Go.Proofs.Ytdpbogooceiaaaa.B
open Go.Proofs.Ytdpbogooceiaaaa.V.B Go.RowKit
set_option linter.unusedVariables false
/-! ### steeple/cube.Last: function 24 -/
mutual
def cube_Last.l6 : Nat → Int → List S38 → Int → Int → List S38 → Option ((List S38) × Int)
  | 0, _, _, _, _, _ => none
  | k + 1, x0, x1, x2, x3, x4 => if x3 < x2 then (if 0 ≤ x3 then (if x3 < (x1.length : Int) then cube_Last.l10 k x0 (wrap64 (Int.tdiv (x4.length : Int) 2)) x1 x2 x3 (wrap64 (Int.tdiv (x4.length : Int) 2)) 0 x4 (rd38 x1 x3).f0 (rd38 x1 x3).f1 else none) else none) else some (x4, 0)
def cube_Last.l10 : Nat → Int → Int → List S38 → Int → Int → Int → Int → List S38 → Int → Int → Option ((List S38) × Int)
  | 0, _, _, _, _, _, _, _, _, _, _ => none
  | k + 1, x0, x1, x2, x3, x4, x5, x6, x7, x8, x9 => if x6 < x5 then (if 0 ≤ x6 then (if x6 < (x7.length : Int) then (if 0 ≤ wrap64 (x1 + x6) then (if wrap64 (x1 + x6) < (x7.length : Int) then ((cube_between.f k x0 (rd38 x7 x6) (rd38 x7 (wrap64 (x1 + x6))) (⟨x8, x9⟩ : S38)).bind fun r2 => if 0 ≤ x6 then (if x6 < (x7.length : Int) then cube_Last.l10 k x0 x1 x2 x3 x4 x5 (wrap64 (x6 + 1)) (x7.set (Int.toNat x6) r2) x8 x9 else none) else none) else none) else none) else none) else none) else if 0 ≤ x1 then (if x1 ≤ (x7.length : Int) then cube_Last.l6 k x0 x2 x3 (wrap64 (x4 + 1)) (x7.take (Int.toNat x1)) else none) else none
end
def cube_Last.f (k : Nat) (a0 : Int) (a1 : List S38) (a2 : List S38) : Option ((List S38) × Int) := (cube_ask.f k a0 a1 a2).bind fun r0 => if r0 = 0 then ((slices_Clone85.f k a1).bind fun r1 => cube_Last.l6 k a0 a2 (a2.length : Int) 0 r1) else some ([], r0)
def cube_Last.sig (k : Nat) : Sig E.toTys := ⟨[.int .i64, .slice (.st 1), .slice (.st 1)], [(true, .slice (.st 1)), (false, .int .i64)], none, fun x => f k x.1 x.2.1 x.2.2.1⟩
noncomputable def cube_Last.body : Code := Try.f24.body.getD .skip
def cube_Last.calls (k : Nat) : List (Nat × Sig E.toTys) := [(84, cube_ask.sig k), (85, slices_Clone85.sig k), (86, cube_between.sig k)]
def cube_Last.cuts : List (Cut E (RT E.toTys [(true, .slice (.st 1)), (false, .int .i64)])) := [⟨true, 6, ⟨cat [.one (.val (.int .i64))] (cat (ds 8) (cat [.one (.ref 0)] (cat (ds 13) (cat [.one (.val (.slice (.st 1))), .one (.val (.int .i64)), .one (.val (.int .i64))] (ds 32))))), [.arr (.st 1)], false⟩, fun k x => cube_Last.l6 k x.1.1 x.1.2.1 x.1.2.2.1 x.1.2.2.2.1 x.2.1⟩,
  ⟨true, 10, ⟨cat [.one (.val (.int .i64))] (cat (ds 8) (cat [.one (.ref 0)] (cat (ds 1) (cat [.one (.ptr 1 0), .one (.val (.int .i64))] (cat (ds 10) (cat [.one (.val (.slice (.st 1))), .one (.val (.int .i64)), .one (.val (.int .i64))] (cat (ds 6) (cat [.one (.val (.int .i64)), .one (.val (.int .i64))] (ds 24))))))))), [.arr (.st 1), .var [.val (.int .u64), .val (.int .u64)]], false⟩, fun k x => cube_Last.l10 k x.1.1 x.1.2.1 x.1.2.2.1 x.1.2.2.2.1 x.1.2.2.2.2.1 x.1.2.2.2.2.2.1 x.1.2.2.2.2.2.2.1 x.2.1 x.2.2.1.1 x.2.2.1.2.1⟩]
theorem cube_Last.ok (k : Nat) : Okf (XR E) Try.prog 24 (cube_Last.sig k) := ⟨fn_ok (C := fun k => tab.ctx fun f => lk f (cube_Last.calls k)) (fun k => tie _) k (fun j hj => calls_ok (kc (cube_ask.ok j) (kc (slices_Clone85.ok j) (kc (cube_between.ok j) (kn))))) 400 Try.func24 (body := cube_Last.body) (res := [.tmp 6, .tmp 7]) rfl (by kernel_rfl) cube_Last.cuts (kc ⟨by kernel_rfl, rfl, fun _ => rfl, fun _ _ => by kernel_rfl⟩ (kc ⟨by kernel_rfl, rfl, fun _ => rfl, fun _ _ => by kernel_rfl⟩ (kn))) (fun x => by kernel_rfl), _, Try.func24, by kernel_rfl, by kernel_rfl⟩
/-! ### steeple/steeplelaw01.Ref: function 25 -/
def steeplelaw01_Ref.l3 : Nat → List S38 → Int → List S51 → Option (List S51)
  | 0, _, _, _ => none
  | k + 1, x0, x1, x2 => if x1 < (x0.length : Int) then (if 0 ≤ x1 then (if x1 < (x0.length : Int) then (if x2.length + [(⟨(rd38 x0 x1).f0, (rd38 x0 x1).f1⟩ : S51)].length ≤ 140737488355328 / 16 then steeplelaw01_Ref.l3 k x0 (wrap64 (x1 + 1)) (x2 ++ [(⟨(rd38 x0 x1).f0, (rd38 x0 x1).f1⟩ : S51)]) else none) else none) else none) else some x2
def steeplelaw01_Ref.f (k : Nat) (a0 : List S38) : Option (List S51) := steeplelaw01_Ref.l3 k a0 0 []
def steeplelaw01_Ref.sig (k : Nat) : Sig E.toTys := ⟨[.slice (.st 1)], [(true, .slice (.st 4))], none, fun x => f k x.1⟩
noncomputable def steeplelaw01_Ref.body : Code := Try.f25.body.getD .skip
def steeplelaw01_Ref.calls (k : Nat) : List (Nat × Sig E.toTys) := []
def steeplelaw01_Ref.cuts : List (Cut E (RT E.toTys [(true, .slice (.st 4))])) := [⟨true, 3, ⟨cat [.one (.val (.slice (.st 1)))] (cat (ds 2) (cat [.one (.ref 0), .one (.val (.int .i64))] (ds 14))), [.arr (.st 4)], false⟩, fun k x => steeplelaw01_Ref.l3 k x.1.1 x.1.2.1 x.2.1⟩]
theorem steeplelaw01_Ref.ok (k : Nat) : Okf (XR E) Try.prog 25 (steeplelaw01_Ref.sig k) := ⟨fn_ok (C := fun k => tab.ctx fun f => lk f (steeplelaw01_Ref.calls k)) (fun k => tie _) k (fun j hj => calls_ok (kn)) 400 Try.func25 (body := steeplelaw01_Ref.body) (res := [.tmp 2]) rfl (by kernel_rfl) steeplelaw01_Ref.cuts (kc ⟨by kernel_rfl, rfl, fun _ => rfl, fun _ _ => by kernel_rfl⟩ (kn)) (fun x => by kernel_rfl), _, Try.func25, by kernel_rfl, by kernel_rfl⟩
/-! ### steeple/steepleref15.Log: function 87 -/
def steepleref15_Log.l3 : Nat → Int → Int → Int → Option Int
  | 0, _, _, _ => none
  | k + 1, x0, x1, x2 => if x2 ≤ 16 then (if x1 = x0 then some x2 else steepleref15_Log.l3 k x0 (wrap64 (2 * x1)) (wrap64 (x2 + 1))) else some (-1)
def steepleref15_Log.f (k : Nat) (a0 : Int) : Option Int := steepleref15_Log.l3 k a0 1 0
def steepleref15_Log.sig (k : Nat) : Sig E.toTys := ⟨[.int .i64], [(false, .int .i64)], none, fun x => f k x.1⟩
noncomputable def steepleref15_Log.body : Code := Try.f87.body.getD .skip
def steepleref15_Log.calls (k : Nat) : List (Nat × Sig E.toTys) := []
def steepleref15_Log.cuts : List (Cut E (RT E.toTys [(false, .int .i64)])) := [⟨true, 3, ⟨cat [.one (.val (.int .i64))] (cat (ds 2) (cat [.one (.val (.int .i64)), .one (.val (.int .i64))] (ds 10))), [], false⟩, fun k x => steepleref15_Log.l3 k x.1.1 x.1.2.1 x.1.2.2.1⟩]
theorem steepleref15_Log.ok (k : Nat) : Okf (XR E) Try.prog 87 (steepleref15_Log.sig k) := ⟨fn_ok (C := fun k => tab.ctx fun f => lk f (steepleref15_Log.calls k)) (fun k => tie _) k (fun j hj => calls_ok (kn)) 400 Try.func87 (body := steepleref15_Log.body) (res := [.tmp 2]) rfl (by kernel_rfl) steepleref15_Log.cuts (kc ⟨by kernel_rfl, rfl, fun _ => rfl, fun _ _ => by kernel_rfl⟩ (kn)) (fun x => by kernel_rfl), _, Try.func87, by kernel_rfl, by kernel_rfl⟩
/-! ### steeple/steepleref01.bit: function 108 -/
def steepleref01_bit.f (k : Nat) (a0 : S51) (a1 : Int) : Option Int := if a1 ≥ 64 then (if 0 ≤ IntKind.u64.wrap (wrap64 (a1 - 64)) then some (bits .and .u64 (shr .u64 a0.f0 (IntKind.u64.wrap (wrap64 (a1 - 64)))) 1) else none) else if 0 ≤ IntKind.u64.wrap a1 then some (bits .and .u64 (shr .u64 a0.f1 (IntKind.u64.wrap a1)) 1) else none
def steepleref01_bit.sig (k : Nat) : Sig E.toTys := ⟨[.st 4, .int .i64], [(false, .int .u64)], none, fun x => f k x.1 x.2.1⟩
noncomputable def steepleref01_bit.body : Code := Try.f108.body.getD .skip
def steepleref01_bit.calls (k : Nat) : List (Nat × Sig E.toTys) := []
def steepleref01_bit.cuts : List (Cut E (RT E.toTys [(false, .int .u64)])) := []
theorem steepleref01_bit.ok (k : Nat) : Okf (XR E) Try.prog 108 (steepleref01_bit.sig k) := ⟨fn_ok (C := fun k => tab.ctx fun f => lk f (steepleref01_bit.calls k)) (fun k => tie _) k (fun j hj => calls_ok (kn)) 400 Try.func108 (body := steepleref01_bit.body) (res := [.tmp 4]) rfl (by kernel_rfl) steepleref01_bit.cuts (kn) (fun x => by kernel_rfl), _, Try.func108, by kernel_rfl, by kernel_rfl⟩
/-! ### steeple/steepleref01.Of: function 56 -/
def steepleref01_Of.l5 : Nat → Int → Int → Int → Option Bool
  | 0, _, _, _ => none
  | k + 1, x0, x1, x2 => if x0 < 128 then ((steepleref01_bit.f k (⟨x1, x2⟩ : S51) x0).bind fun r0 => if r0 = 1 then some false else steepleref01_Of.l5 k (wrap64 (x0 + 1)) x1 x2) else some true
def steepleref01_Of.f (k : Nat) (a0 : Int) (a1 : S51) : Option Bool := if a0 < 0 then some false else if a0 > 7 then some false else if 0 ≤ a0 then (if a0 < ([1, 2, 4, 8, 16, 32, 64, 128].length : Int) then steepleref01_Of.l5 k (rdI [1, 2, 4, 8, 16, 32, 64, 128] a0) a1.f0 a1.f1 else none) else none
def steepleref01_Of.sig (k : Nat) : Sig E.toTys := ⟨[.int .i64, .st 4], [(false, .bool)], none, fun x => f k x.1 x.2.1⟩
noncomputable def steepleref01_Of.body : Code := Try.f56.body.getD .skip
def steepleref01_Of.calls (k : Nat) : List (Nat × Sig E.toTys) := [(108, steepleref01_bit.sig k)]
def steepleref01_Of.cuts : List (Cut E (RT E.toTys [(false, .bool)])) := [⟨true, 5, ⟨cat (ds 3) (cat [.one (.ptr 0 0)] (cat (ds 2) (cat [.one (.val (.int .i64))] (ds 19)))), [.var [.val (.int .u64), .val (.int .u64)]], false⟩, fun k x => steepleref01_Of.l5 k x.1.1 x.2.1.1 x.2.1.2.1⟩]
theorem steepleref01_Of.ok (k : Nat) : Okf (XR E) Try.prog 56 (steepleref01_Of.sig k) := ⟨fn_ok (C := fun k => tab.ctx fun f => lk f (steepleref01_Of.calls k)) (fun k => tie _) k (fun j hj => calls_ok (kc (steepleref01_bit.ok j) (kn))) 400 Try.func56 (body := steepleref01_Of.body) (res := [.tmp 4]) rfl (by kernel_rfl) steepleref01_Of.cuts (kc ⟨by kernel_rfl, rfl, fun _ => rfl, fun _ _ => by kernel_rfl⟩ (kn)) (fun x => by kernel_rfl), _, Try.func56, by kernel_rfl, by kernel_rfl⟩
/-! ### steeple/steepleref06.All: function 55 -/
def steepleref06_All.l2 : Nat → Int → List S51 → Int → Option Bool
  | 0, _, _, _ => none
  | k + 1, x0, x1, x2 => if x2 < (x1.length : Int) then (if 0 ≤ x2 then (if x2 < (x1.length : Int) then ((steepleref01_Of.f k x0 (rd51 x1 x2)).bind fun r0 => if (!r0) = true then some false else steepleref06_All.l2 k x0 x1 (wrap64 (x2 + 1))) else none) else none) else some true
def steepleref06_All.f (k : Nat) (a0 : Int) (a1 : List S51) : Option Bool := steepleref06_All.l2 k a0 a1 0
def steepleref06_All.sig (k : Nat) : Sig E.toTys := ⟨[.int .i64, .slice (.st 4)], [(false, .bool)], none, fun x => f k x.1 x.2.1⟩
noncomputable def steepleref06_All.body : Code := Try.f55.body.getD .skip
def steepleref06_All.calls (k : Nat) : List (Nat × Sig E.toTys) := [(56, steepleref01_Of.sig k)]
def steepleref06_All.cuts : List (Cut E (RT E.toTys [(false, .bool)])) := [⟨true, 2, ⟨cat [.one (.val (.int .i64)), .one (.val (.slice (.st 4)))] (cat (ds 3) (cat [.one (.val (.int .i64))] (ds 13))), [], false⟩, fun k x => steepleref06_All.l2 k x.1.1 x.1.2.1 x.1.2.2.1⟩]
theorem steepleref06_All.ok (k : Nat) : Okf (XR E) Try.prog 55 (steepleref06_All.sig k) := ⟨fn_ok (C := fun k => tab.ctx fun f => lk f (steepleref06_All.calls k)) (fun k => tie _) k (fun j hj => calls_ok (kc (steepleref01_Of.ok j) (kn))) 400 Try.func55 (body := steepleref06_All.body) (res := [.tmp 4]) rfl (by kernel_rfl) steepleref06_All.cuts (kc ⟨by kernel_rfl, rfl, fun _ => rfl, fun _ _ => by kernel_rfl⟩ (kn)) (fun x => by kernel_rfl), _, Try.func55, by kernel_rfl, by kernel_rfl⟩
/-! ### steeple/steepleref15.May: function 26 -/
def steepleref15_May.f (k : Nat) (a0 : Int) (a1 : List S51) (a2 : List S51) : Option Int := if a0 < 0 then some 1 else if a0 > 7 then some 1 else (steepleref15_Log.f k (a1.length : Int)).bind fun r0 => if r0 < 0 then some 6 else (steepleref15_Log.f k (a1.length : Int)).bind fun r1 => if (a2.length : Int) > r1 then some 6 else (steepleref06_All.f k a0 a1).bind fun r2 => if (!r2) = true then some 5 else (steepleref06_All.f k a0 a2).bind fun r3 => if (!r3) = true then some 5 else some 0
def steepleref15_May.sig (k : Nat) : Sig E.toTys := ⟨[.int .i64, .slice (.st 4), .slice (.st 4)], [(false, .int .i64)], none, fun x => f k x.1 x.2.1 x.2.2.1⟩
noncomputable def steepleref15_May.body : Code := Try.f26.body.getD .skip
def steepleref15_May.calls (k : Nat) : List (Nat × Sig E.toTys) := [(87, steepleref15_Log.sig k), (55, steepleref06_All.sig k)]
def steepleref15_May.cuts : List (Cut E (RT E.toTys [(false, .int .i64)])) := []
theorem steepleref15_May.ok (k : Nat) : Okf (XR E) Try.prog 26 (steepleref15_May.sig k) := ⟨fn_ok (C := fun k => tab.ctx fun f => lk f (steepleref15_May.calls k)) (fun k => tie _) k (fun j hj => calls_ok (kc (steepleref15_Log.ok j) (kc (steepleref06_All.ok j) (kn)))) 400 Try.func26 (body := steepleref15_May.body) (res := [.tmp 6]) rfl (by kernel_rfl) steepleref15_May.cuts (kn) (fun x => by kernel_rfl), _, Try.func26, by kernel_rfl, by kernel_rfl⟩
/-! ### steeple/steepleref15.one: function 90 -/
def steepleref15_one.f (k : Nat) : Option S51 := some (⟨0, 1⟩ : S51)
def steepleref15_one.sig (k : Nat) : Sig E.toTys := ⟨[], [(false, .st 4)], none, fun x => f k⟩
noncomputable def steepleref15_one.body : Code := Try.f90.body.getD .skip
def steepleref15_one.calls (k : Nat) : List (Nat × Sig E.toTys) := []
def steepleref15_one.cuts : List (Cut E (RT E.toTys [(false, .st 4)])) := []
theorem steepleref15_one.ok (k : Nat) : Okf (XR E) Try.prog 90 (steepleref15_one.sig k) := ⟨fn_ok (C := fun k => tab.ctx fun f => lk f (steepleref15_one.calls k)) (fun k => tie _) k (fun j hj => calls_ok (kn)) 400 Try.func90 (body := steepleref15_one.body) (res := [.cell 0 51]) rfl (by kernel_rfl) steepleref15_one.cuts (kn) (fun x => by kernel_rfl), _, Try.func90, by kernel_rfl, by kernel_rfl⟩
/-! ### steeple/steepleref02.Add: function 88 -/
def steepleref02_Add.f (k : Nat) (a0 : S51) (a1 : S51) : Option S51 := some (⟨bits .xor .u64 a0.f0 a1.f0, bits .xor .u64 a0.f1 a1.f1⟩ : S51)
def steepleref02_Add.sig (k : Nat) : Sig E.toTys := ⟨[.st 4, .st 4], [(false, .st 4)], none, fun x => f k x.1 x.2.1⟩
noncomputable def steepleref02_Add.body : Code := Try.f88.body.getD .skip
def steepleref02_Add.calls (k : Nat) : List (Nat × Sig E.toTys) := []
def steepleref02_Add.cuts : List (Cut E (RT E.toTys [(false, .st 4)])) := []
theorem steepleref02_Add.ok (k : Nat) : Okf (XR E) Try.prog 88 (steepleref02_Add.sig k) := ⟨fn_ok (C := fun k => tab.ctx fun f => lk f (steepleref02_Add.calls k)) (fun k => tie _) k (fun j hj => calls_ok (kn)) 400 Try.func88 (body := steepleref02_Add.body) (res := [.cell 4 51]) rfl (by kernel_rfl) steepleref02_Add.cuts (kn) (fun x => by kernel_rfl), _, Try.func88, by kernel_rfl, by kernel_rfl⟩
/-! ### steeple/steepleref02.Bit: function 151 -/
def steepleref02_Bit.f (k : Nat) (a0 : Int) : Option S51 := if a0 < 0 then some (⟨0, 0⟩ : S51) else if a0 > 127 then some (⟨0, 0⟩ : S51) else if a0 > 63 then (if 0 ≤ IntKind.u64.wrap (wrap64 (a0 - 64)) then some (⟨shl .u64 1 (IntKind.u64.wrap (wrap64 (a0 - 64))), 0⟩ : S51) else none) else if 0 ≤ IntKind.u64.wrap a0 then some (⟨0, shl .u64 1 (IntKind.u64.wrap a0)⟩ : S51) else none
def steepleref02_Bit.sig (k : Nat) : Sig E.toTys := ⟨[.int .i64], [(false, .st 4)], none, fun x => f k x.1⟩
noncomputable def steepleref02_Bit.body : Code := Try.f151.body.getD .skip
def steepleref02_Bit.calls (k : Nat) : List (Nat × Sig E.toTys) := []
def steepleref02_Bit.cuts : List (Cut E (RT E.toTys [(false, .st 4)])) := []
theorem steepleref02_Bit.ok (k : Nat) : Okf (XR E) Try.prog 151 (steepleref02_Bit.sig k) := ⟨fn_ok (C := fun k => tab.ctx fun f => lk f (steepleref02_Bit.calls k)) (fun k => tie _) k (fun j hj => calls_ok (kn)) 400 Try.func151 (body := steepleref02_Bit.body) (res := [.cell 2 51]) rfl (by kernel_rfl) steepleref02_Bit.cuts (kn) (fun x => by kernel_rfl), _, Try.func151, by kernel_rfl, by kernel_rfl⟩
/-! ### steeple/steepleref02.Has: function 122 -/
def steepleref02_Has.f (k : Nat) (a0 : S51) (a1 : Int) : Option Bool := (steepleref02_Bit.f k a1).bind fun r0 => some (!decide (bits .or .u64 (bits .and .u64 a0.f1 r0.f1) (bits .and .u64 a0.f0 r0.f0) = 0))
def steepleref02_Has.sig (k : Nat) : Sig E.toTys := ⟨[.st 4, .int .i64], [(false, .bool)], none, fun x => f k x.1 x.2.1⟩
noncomputable def steepleref02_Has.body : Code := Try.f122.body.getD .skip
def steepleref02_Has.calls (k : Nat) : List (Nat × Sig E.toTys) := [(151, steepleref02_Bit.sig k)]
def steepleref02_Has.cuts : List (Cut E (RT E.toTys [(false, .bool)])) := []
theorem steepleref02_Has.ok (k : Nat) : Okf (XR E) Try.prog 122 (steepleref02_Has.sig k) := ⟨fn_ok (C := fun k => tab.ctx fun f => lk f (steepleref02_Has.calls k)) (fun k => tie _) k (fun j hj => calls_ok (kc (steepleref02_Bit.ok j) (kn))) 400 Try.func122 (body := steepleref02_Has.body) (res := [.tmp 4]) rfl (by kernel_rfl) steepleref02_Has.cuts (kn) (fun x => by kernel_rfl), _, Try.func122, by kernel_rfl, by kernel_rfl⟩
/-! ### steeple/steepleref02.mask: function 177 -/
def steepleref02_mask.f (k : Nat) (a0 : Int) : Option Int := if 0 ≤ a0 then (if a0 < ([6148914691236517205, 3689348814741910323, 1085102592571150095, 71777214294589695, 281470681808895, 4294967295].length : Int) then some (rdI [6148914691236517205, 3689348814741910323, 1085102592571150095, 71777214294589695, 281470681808895, 4294967295] a0) else none) else none
def steepleref02_mask.sig (k : Nat) : Sig E.toTys := ⟨[.int .i64], [(false, .int .u64)], none, fun x => f k x.1⟩
noncomputable def steepleref02_mask.body : Code := Try.f177.body.getD .skip
def steepleref02_mask.calls (k : Nat) : List (Nat × Sig E.toTys) := []
def steepleref02_mask.cuts : List (Cut E (RT E.toTys [(false, .int .u64)])) := []
theorem steepleref02_mask.ok (k : Nat) : Okf (XR E) Try.prog 177 (steepleref02_mask.sig k) := ⟨fn_ok (C := fun k => tab.ctx fun f => lk f (steepleref02_mask.calls k)) (fun k => tie _) k (fun j hj => calls_ok (kn)) 400 Try.func177 (body := steepleref02_mask.body) (res := [.tmp 2]) rfl (by kernel_rfl) steepleref02_mask.cuts (kn) (fun x => by kernel_rfl), _, Try.func177, by kernel_rfl, by kernel_rfl⟩
/-! ### steeple/steepleref02.timesWord: function 163 -/
def steepleref02_timesWord.f : Nat → Int → Int → Option Int
  | 0, _, _ => none
  | k + 1, a0, a1 => if a0 < 0 then some a1 else if 0 ≤ IntKind.u64.wrap a0 then (if 0 ≤ shl .u64 1 (IntKind.u64.wrap a0) then ((steepleref02_mask.f k a0).bind fun r0 => (steepleref02_mask.f k a0).bind fun r1 => (steepleref02_timesWord.f k (wrap64 (a0 - 1)) (bits .and .u64 (shr .u64 a1 (shl .u64 1 (IntKind.u64.wrap a0))) r0)).bind fun r2 => if 0 ≤ shl .u64 1 (IntKind.u64.wrap a0) then some (bits .or .u64 (shl .u64 (bits .xor .u64 (bits .and .u64 a1 r1) r2) (shl .u64 1 (IntKind.u64.wrap a0))) (bits .and .u64 (shr .u64 a1 (shl .u64 1 (IntKind.u64.wrap a0))) r0)) else none) else none) else none
def steepleref02_timesWord.sig (k : Nat) : Sig E.toTys := ⟨[.int .i64, .int .u64], [(false, .int .u64)], none, fun x => f k x.1 x.2.1⟩
noncomputable def steepleref02_timesWord.body : Code := Try.f163.body.getD .skip
def steepleref02_timesWord.calls (k : Nat) : List (Nat × Sig E.toTys) := [(177, steepleref02_mask.sig k), (163, steepleref02_timesWord.sig k)]
def steepleref02_timesWord.cuts : List (Cut E (RT E.toTys [(false, .int .u64)])) := []
theorem steepleref02_timesWord.oks (k : Nat) : Okf (XR E) Try.prog 163 (steepleref02_timesWord.sig k) := by
  induction k using Nat.strongRecOn with
  | ind k ih =>
  cases k with
  | zero => exact ⟨ok0 fun _ => rfl, _, Try.func163, by kernel_rfl, by kernel_rfl⟩
  | succ k => exact ⟨fn_ok (C := fun k => tab.ctx fun f => lk f (steepleref02_timesWord.calls k)) (fun k => tie _) k (fun j hj => calls_ok (kc (steepleref02_mask.ok j) (kc (ih j (Nat.lt_succ_of_le hj)) (kn)))) 400 Try.func163 (body := steepleref02_timesWord.body) (res := [.tmp 4]) rfl (by kernel_rfl) steepleref02_timesWord.cuts (kn) (fun x => by kernel_rfl), _, Try.func163, by kernel_rfl, by kernel_rfl⟩
theorem steepleref02_timesWord.ok (k : Nat) : Okf (XR E) Try.prog 163 (steepleref02_timesWord.sig k) := (steepleref02_timesWord.oks k)
/-! ### steeple/steepleref02.Times: function 131 -/
def steepleref02_Times.f (k : Nat) (a0 : Int) (a1 : S51) : Option S51 := if a0 < 6 then ((steepleref02_timesWord.f k a0 a1.f0).bind fun r0 => (steepleref02_timesWord.f k a0 a1.f1).bind fun r1 => some (⟨r0, r1⟩ : S51)) else (steepleref02_timesWord.f k 5 a1.f0).bind fun r2 => some (⟨bits .xor .u64 a1.f1 r2, a1.f0⟩ : S51)
def steepleref02_Times.sig (k : Nat) : Sig E.toTys := ⟨[.int .i64, .st 4], [(false, .st 4)], none, fun x => f k x.1 x.2.1⟩
noncomputable def steepleref02_Times.body : Code := Try.f131.body.getD .skip
def steepleref02_Times.calls (k : Nat) : List (Nat × Sig E.toTys) := [(163, steepleref02_timesWord.sig k)]
def steepleref02_Times.cuts : List (Cut E (RT E.toTys [(false, .st 4)])) := []
theorem steepleref02_Times.ok (k : Nat) : Okf (XR E) Try.prog 131 (steepleref02_Times.sig k) := ⟨fn_ok (C := fun k => tab.ctx fun f => lk f (steepleref02_Times.calls k)) (fun k => tie _) k (fun j hj => calls_ok (kc (steepleref02_timesWord.ok j) (kn))) 400 Try.func131 (body := steepleref02_Times.body) (res := [.cell 4 51]) rfl (by kernel_rfl) steepleref02_Times.cuts (kn) (fun x => by kernel_rfl), _, Try.func131, by kernel_rfl, by kernel_rfl⟩
/-! ### steeple/steepleref02.Product: function 89 -/
mutual
def steepleref02_Product.l3 : Nat → Int → Int → Int → Int → Int → Int → Int → Int → Int → Option S51
  | 0, _, _, _, _, _, _, _, _, _ => none
  | k + 1, x0, x1, x2, x3, x4, x5, x6, x7, x8 => if x0 < 128 then ((steepleref02_Has.f k (⟨x3, x4⟩ : S51) x0).bind fun r0 => if (!r0) = true then steepleref02_Product.l3 k (wrap64 (x0 + 1)) x1 x2 x3 x4 x5 x6 x7 x8 else steepleref02_Product.l8 k x0 0 x1 x2 x3 x4 x5 x6 x7 x8 x1 x2) else some (⟨x7, x8⟩ : S51)
def steepleref02_Product.l8 : Nat → Int → Int → Int → Int → Int → Int → Int → Int → Int → Int → Int → Int → Option S51
  | 0, _, _, _, _, _, _, _, _, _, _, _, _ => none
  | k + 1, x0, x1, x2, x3, x4, x5, x6, x7, x8, x9, x10, x11 => if x1 < 7 then (if 0 ≤ IntKind.u64.wrap x1 then (if bits .and .i64 (shr .i64 x0 (IntKind.u64.wrap x1)) 1 = 1 then ((steepleref02_Times.f k x1 (⟨x10, x11⟩ : S51)).bind fun r1 => steepleref02_Product.l8 k x0 (wrap64 (x1 + 1)) x2 x3 x4 x5 x6 x7 x8 x9 r1.f0 r1.f1) else steepleref02_Product.l8 k x0 (wrap64 (x1 + 1)) x2 x3 x4 x5 x6 x7 x8 x9 x10 x11) else none) else (steepleref02_Add.f k (⟨x8, x9⟩ : S51) (⟨x10, x11⟩ : S51)).bind fun r2 => steepleref02_Product.l3 k (wrap64 (x0 + 1)) x2 x3 x4 x5 x6 x7 r2.f0 r2.f1
end
def steepleref02_Product.f (k : Nat) (a0 : S51) (a1 : S51) : Option S51 := steepleref02_Product.l3 k 0 a0.f0 a0.f1 a1.f0 a1.f1 0 0 0 0
def steepleref02_Product.sig (k : Nat) : Sig E.toTys := ⟨[.st 4, .st 4], [(false, .st 4)], none, fun x => f k x.1 x.2.1⟩
noncomputable def steepleref02_Product.body : Code := Try.f89.body.getD .skip
def steepleref02_Product.calls (k : Nat) : List (Nat × Sig E.toTys) := [(122, steepleref02_Has.sig k), (131, steepleref02_Times.sig k), (88, steepleref02_Add.sig k)]
def steepleref02_Product.cuts : List (Cut E (RT E.toTys [(false, .st 4)])) := [⟨true, 3, ⟨cat (ds 2) (cat [.one (.ptr 0 0), .one (.ptr 1 0), .one (.ptr 2 0), .one (.ptr 3 0), .one (.val (.int .i64))] (ds 28)), [.var [.val (.int .u64), .val (.int .u64)], .var [.val (.int .u64), .val (.int .u64)], .var [.val (.int .u64), .val (.int .u64)], .var [.val (.int .u64), .val (.int .u64)]], false⟩, fun k x => steepleref02_Product.l3 k x.1.1 x.2.1.1 x.2.1.2.1 x.2.2.1.1 x.2.2.1.2.1 x.2.2.2.1.1 x.2.2.2.1.2.1 x.2.2.2.2.1.1 x.2.2.2.2.1.2.1⟩,
  ⟨true, 8, ⟨cat (ds 2) (cat [.one (.ptr 0 0), .one (.ptr 1 0), .one (.ptr 2 0), .one (.ptr 3 0), .one (.val (.int .i64)), .one (.ptr 4 0), .one (.val (.int .i64))] (ds 26)), [.var [.val (.int .u64), .val (.int .u64)], .var [.val (.int .u64), .val (.int .u64)], .var [.val (.int .u64), .val (.int .u64)], .var [.val (.int .u64), .val (.int .u64)], .var [.val (.int .u64), .val (.int .u64)]], false⟩, fun k x => steepleref02_Product.l8 k x.1.1 x.1.2.1 x.2.1.1 x.2.1.2.1 x.2.2.1.1 x.2.2.1.2.1 x.2.2.2.1.1 x.2.2.2.1.2.1 x.2.2.2.2.1.1 x.2.2.2.2.1.2.1 x.2.2.2.2.2.1.1 x.2.2.2.2.2.1.2.1⟩]
theorem steepleref02_Product.ok (k : Nat) : Okf (XR E) Try.prog 89 (steepleref02_Product.sig k) := ⟨fn_ok (C := fun k => tab.ctx fun f => lk f (steepleref02_Product.calls k)) (fun k => tie _) k (fun j hj => calls_ok (kc (steepleref02_Has.ok j) (kc (steepleref02_Times.ok j) (kc (steepleref02_Add.ok j) (kn))))) 400 Try.func89 (body := steepleref02_Product.body) (res := [.cell 4 51]) rfl (by kernel_rfl) steepleref02_Product.cuts (kc ⟨by kernel_rfl, rfl, fun _ => rfl, fun _ _ => by kernel_rfl⟩ (kc ⟨by kernel_rfl, rfl, fun _ => rfl, fun _ _ => by kernel_rfl⟩ (kn))) (fun x => by kernel_rfl), _, Try.func89, by kernel_rfl, by kernel_rfl⟩
/-! ### steeple/steepleref15.First: function 27 -/
def steepleref15_First.l3 : Nat → List S51 → Int → Int → Int → List S51 → Option (List S51)
  | 0, _, _, _, _, _ => none
  | k + 1, x0, x1, x2, x3, x4 => if wrap64 (x1 + 1) < (x0.length : Int) then ((steepleref15_one.f k).bind fun r0 => (steepleref02_Add.f k r0 (⟨x2, x3⟩ : S51)).bind fun r1 => if 0 ≤ x1 then (if x1 < (x0.length : Int) then ((steepleref02_Product.f k r1 (rd51 x0 x1)).bind fun r2 => if 0 ≤ wrap64 (x1 + 1) then (if wrap64 (x1 + 1) < (x0.length : Int) then ((steepleref02_Product.f k (⟨x2, x3⟩ : S51) (rd51 x0 (wrap64 (x1 + 1)))).bind fun r3 => (steepleref02_Add.f k r2 r3).bind fun r4 => if x4.length + [r4].length ≤ 140737488355328 / 16 then steepleref15_First.l3 k x0 (wrap64 (x1 + 2)) x2 x3 (x4 ++ [r4]) else none) else none) else none) else none) else none) else some x4
def steepleref15_First.f (k : Nat) (a0 : List S51) (a1 : S51) : Option (List S51) := steepleref15_First.l3 k a0 0 a1.f0 a1.f1 []
def steepleref15_First.sig (k : Nat) : Sig E.toTys := ⟨[.slice (.st 4), .st 4], [(true, .slice (.st 4))], none, fun x => f k x.1 x.2.1⟩
noncomputable def steepleref15_First.body : Code := Try.f27.body.getD .skip
def steepleref15_First.calls (k : Nat) : List (Nat × Sig E.toTys) := [(90, steepleref15_one.sig k), (88, steepleref02_Add.sig k), (89, steepleref02_Product.sig k)]
def steepleref15_First.cuts : List (Cut E (RT E.toTys [(true, .slice (.st 4))])) := [⟨true, 3, ⟨cat [.one (.val (.slice (.st 4)))] (cat (ds 2) (cat [.one (.ptr 0 0)] (cat (ds 1) (cat [.one (.ref 1), .one (.val (.int .i64))] (ds 27))))), [.var [.val (.int .u64), .val (.int .u64)], .arr (.st 4)], false⟩, fun k x => steepleref15_First.l3 k x.1.1 x.1.2.1 x.2.1.1 x.2.1.2.1 x.2.2.1⟩]
theorem steepleref15_First.ok (k : Nat) : Okf (XR E) Try.prog 27 (steepleref15_First.sig k) := ⟨fn_ok (C := fun k => tab.ctx fun f => lk f (steepleref15_First.calls k)) (fun k => tie _) k (fun j hj => calls_ok (kc (steepleref15_one.ok j) (kc (steepleref02_Add.ok j) (kc (steepleref02_Product.ok j) (kn))))) 400 Try.func27 (body := steepleref15_First.body) (res := [.tmp 4]) rfl (by kernel_rfl) steepleref15_First.cuts (kc ⟨by kernel_rfl, rfl, fun _ => rfl, fun _ _ => by kernel_rfl⟩ (kn)) (fun x => by kernel_rfl), _, Try.func27, by kernel_rfl, by kernel_rfl⟩
/-! ### steeple/steepleref15.Last: function 28 -/
def steepleref15_Last.l4 : Nat → List S51 → Int → Int → Int → Int → List S51 → Option (List S51)
  | 0, _, _, _, _, _, _ => none
  | k + 1, x0, x1, x2, x3, x4, x5 => if x2 < x1 then ((steepleref15_one.f k).bind fun r0 => (steepleref02_Add.f k r0 (⟨x3, x4⟩ : S51)).bind fun r1 => if 0 ≤ x2 then (if x2 < (x0.length : Int) then ((steepleref02_Product.f k r1 (rd51 x0 x2)).bind fun r2 => if 0 ≤ wrap64 (x1 + x2) then (if wrap64 (x1 + x2) < (x0.length : Int) then ((steepleref02_Product.f k (⟨x3, x4⟩ : S51) (rd51 x0 (wrap64 (x1 + x2)))).bind fun r3 => (steepleref02_Add.f k r2 r3).bind fun r4 => if x5.length + [r4].length ≤ 140737488355328 / 16 then steepleref15_Last.l4 k x0 x1 (wrap64 (x2 + 1)) x3 x4 (x5 ++ [r4]) else none) else none) else none) else none) else none) else some x5
def steepleref15_Last.f (k : Nat) (a0 : List S51) (a1 : S51) : Option (List S51) := steepleref15_Last.l4 k a0 (wrap64 (Int.tdiv (a0.length : Int) 2)) 0 a1.f0 a1.f1 []
def steepleref15_Last.sig (k : Nat) : Sig E.toTys := ⟨[.slice (.st 4), .st 4], [(true, .slice (.st 4))], none, fun x => f k x.1 x.2.1⟩
noncomputable def steepleref15_Last.body : Code := Try.f28.body.getD .skip
def steepleref15_Last.calls (k : Nat) : List (Nat × Sig E.toTys) := [(90, steepleref15_one.sig k), (88, steepleref02_Add.sig k), (89, steepleref02_Product.sig k)]
def steepleref15_Last.cuts : List (Cut E (RT E.toTys [(true, .slice (.st 4))])) := [⟨true, 4, ⟨cat [.one (.val (.slice (.st 4)))] (cat (ds 2) (cat [.one (.ptr 0 0)] (cat (ds 1) (cat [.one (.ref 1), .one (.val (.int .i64)), .one (.val (.int .i64))] (ds 29))))), [.var [.val (.int .u64), .val (.int .u64)], .arr (.st 4)], false⟩, fun k x => steepleref15_Last.l4 k x.1.1 x.1.2.1 x.1.2.2.1 x.2.1.1 x.2.1.2.1 x.2.2.1⟩]
theorem steepleref15_Last.ok (k : Nat) : Okf (XR E) Try.prog 28 (steepleref15_Last.sig k) := ⟨fn_ok (C := fun k => tab.ctx fun f => lk f (steepleref15_Last.calls k)) (fun k => tie _) k (fun j hj => calls_ok (kc (steepleref15_one.ok j) (kc (steepleref02_Add.ok j) (kc (steepleref02_Product.ok j) (kn))))) 400 Try.func28 (body := steepleref15_Last.body) (res := [.tmp 4]) rfl (by kernel_rfl) steepleref15_Last.cuts (kc ⟨by kernel_rfl, rfl, fun _ => rfl, fun _ _ => by kernel_rfl⟩ (kn)) (fun x => by kernel_rfl), _, Try.func28, by kernel_rfl, by kernel_rfl⟩
/-! ### steeple/steeplelaw01.Same: function 29 -/
def steeplelaw01_Same.l4 : Nat → List S38 → List S51 → Int → Option Bool
  | 0, _, _, _ => none
  | k + 1, x0, x1, x2 => if x2 < (x0.length : Int) then (if 0 ≤ x2 then (if x2 < (x0.length : Int) then (if 0 ≤ x2 then (if x2 < (x1.length : Int) then (if (rd38 x0 x2).f0 = (rd51 x1 x2).f0 ∧ (rd38 x0 x2).f1 = (rd51 x1 x2).f1 then steeplelaw01_Same.l4 k x0 x1 (wrap64 (x2 + 1)) else some false) else none) else none) else none) else none) else some true
def steeplelaw01_Same.f (k : Nat) (a0 : List S38) (a1 : List S51) : Option Bool := if (a0.length : Int) = (a1.length : Int) then steeplelaw01_Same.l4 k a0 a1 0 else some false
def steeplelaw01_Same.sig (k : Nat) : Sig E.toTys := ⟨[.slice (.st 1), .slice (.st 4)], [(false, .bool)], none, fun x => f k x.1 x.2.1⟩
noncomputable def steeplelaw01_Same.body : Code := Try.f29.body.getD .skip
def steeplelaw01_Same.calls (k : Nat) : List (Nat × Sig E.toTys) := []
def steeplelaw01_Same.cuts : List (Cut E (RT E.toTys [(false, .bool)])) := [⟨true, 4, ⟨cat [.one (.val (.slice (.st 1))), .one (.val (.slice (.st 4)))] (cat (ds 3) (cat [.one (.val (.int .i64))] (ds 20))), [], false⟩, fun k x => steeplelaw01_Same.l4 k x.1.1 x.1.2.1 x.1.2.2.1⟩]
theorem steeplelaw01_Same.ok (k : Nat) : Okf (XR E) Try.prog 29 (steeplelaw01_Same.sig k) := ⟨fn_ok (C := fun k => tab.ctx fun f => lk f (steeplelaw01_Same.calls k)) (fun k => tie _) k (fun j hj => calls_ok (kn)) 400 Try.func29 (body := steeplelaw01_Same.body) (res := [.tmp 4]) rfl (by kernel_rfl) steeplelaw01_Same.cuts (kc ⟨by kernel_rfl, rfl, fun _ => rfl, fun _ _ => by kernel_rfl⟩ (kn)) (fun x => by kernel_rfl), _, Try.func29, by kernel_rfl, by kernel_rfl⟩
/-! ### steeple/steeplelaw15.CubeBinds: function 4 -/
mutual
def steeplelaw15_CubeBinds.j2 : Nat → Option Bool
  | 0 => none
  | k + 1 => (steeplelaw15_awake.f k).bind fun r8 => some r8
def steeplelaw15_CubeBinds.l14 : Nat → Int → List S38 → Int → List S38 → List S38 → List S38 → List S38 → List S51 → List S51 → List S51 → List S38 → Option Bool
  | 0, _, _, _, _, _, _, _, _, _, _, _ => none
  | k + 1, x0, x1, x2, x3, x4, x5, x6, x7, x8, x9, x10 => if x2 < (x7.length : Int) then (if 0 ≤ x2 then (if x2 < (x7.length : Int) then ((steepleref15_First.f k x8 (rd51 x7 x2)).bind fun r9 => if 0 ≤ x2 then (if x2 < (x7.length : Int) then ((steepleref15_Last.f k x9 (rd51 x7 x2)).bind fun r10 => if 0 ≤ wrap64 ((wrap64 ((x7.length : Int) - 1)) - x2) then (if wrap64 ((wrap64 ((x7.length : Int) - 1)) - x2) < (x3.length : Int) then (if x10.length + [rd38 x3 (wrap64 ((wrap64 ((x7.length : Int) - 1)) - x2))].length ≤ 140737488355328 / 16 then steeplelaw15_CubeBinds.l14 k x0 x1 (wrap64 (x2 + 1)) x3 x4 x5 x6 x7 r9 r10 (x10 ++ [rd38 x3 (wrap64 ((wrap64 ((x7.length : Int) - 1)) - x2))]) else none) else none) else none) else none) else none) else none) else none) else (steeplelaw01_Same.f k x5 x8).bind fun r11 => if (!r11) = true then some false else (steeplelaw01_Same.f k x6 x9).bind fun r12 => if (!r12) = true then some false else (cube_At.f k x0 x5 x4).bind fun r13 => if r13.2 = 0 then (if ([] : List Int).length + x3.length ≤ 140737488355328 / 16 then (if ([] ++ x3).length + x4.length ≤ 140737488355328 / 16 then ((cube_At.f k x0 x1 (([] ++ x3) ++ x4)).bind fun r14 => (cube_At.f k x0 x6 x4).bind fun r15 => if ([] : List Int).length + x4.length ≤ 140737488355328 / 16 then (if ([] ++ x4).length + x10.length ≤ 140737488355328 / 16 then ((cube_At.f k x0 x1 (([] ++ x4) ++ x10)).bind fun r16 => (steeplelaw15_awake.f k).bind fun r17 => if r17 = true then (if r14.2 = 0 then (if r15.2 = 0 then (if r16.2 = 0 then (if r13.1.f0 = r14.1.f0 ∧ r13.1.f1 = r14.1.f1 then some (decide (r15.1.f0 = r16.1.f0 ∧ r15.1.f1 = r16.1.f1)) else some false) else some false) else some false) else some false) else some false) else none) else none) else none) else none) else (steeplelaw15_awake.f k).bind fun r18 => some r18
end
def steeplelaw15_CubeBinds.f (k : Nat) (a0 : Int) (a1 : List S38) (a2 : S45) : Option Bool := if (a1.length : Int) > 70 then steeplelaw15_CubeBinds.j2 k else if (a2.f0.length : Int) > 8 then steeplelaw15_CubeBinds.j2 k else if (a2.f1.length : Int) > 8 then steeplelaw15_CubeBinds.j2 k else (cube_First.f k a0 a1 a2.f0).bind fun r0 => (cube_Last.f k a0 a1 a2.f0).bind fun r1 => (steeplelaw01_Ref.f k a2.f0).bind fun r2 => (steeplelaw01_Ref.f k a1).bind fun r3 => (steepleref15_May.f k a0 r3 r2).bind fun r4 => if r0.2 = r4 then (if r1.2 = r4 then (if r0.2 = 0 then ((steeplelaw01_Ref.f k a1).bind fun r5 => (steeplelaw01_Ref.f k a1).bind fun r6 => steeplelaw15_CubeBinds.l14 k a0 a1 0 a2.f0 a2.f1 r0.1 r1.1 r2 r5 r6 []) else (steeplelaw15_awake.f k).bind fun r7 => if r7 = true then some (decide (wrap64 ((r0.1.length : Int) + (r1.1.length : Int)) = 0)) else some false) else some false) else some false
def steeplelaw15_CubeBinds.sig (k : Nat) : Sig E.toTys := ⟨[.int .i64, .slice (.st 1), .st 3], [(false, .bool)], none, fun x => f k x.1 x.2.1 x.2.2.1⟩
noncomputable def steeplelaw15_CubeBinds.body : Code := Try.f4.body.getD .skip
def steeplelaw15_CubeBinds.calls (k : Nat) : List (Nat × Sig E.toTys) := [(23, cube_First.sig k), (24, cube_Last.sig k), (25, steeplelaw01_Ref.sig k), (26, steepleref15_May.sig k), (22, steeplelaw15_awake.sig k), (27, steepleref15_First.sig k), (28, steepleref15_Last.sig k), (29, steeplelaw01_Same.sig k), (19, cube_At.sig k)]
def steeplelaw15_CubeBinds.cuts : List (Cut E (RT E.toTys [(false, .bool)])) := [⟨false, 2, ⟨ds 195, [], false⟩, fun k x => steeplelaw15_CubeBinds.j2 k⟩,
  ⟨true, 14, ⟨cat [.one (.val (.int .i64)), .one (.val (.slice (.st 1)))] (cat (ds 3) (cat [.one (.ptr 0 0)] (cat (ds 1) (cat [.one (.ref 1)] (cat (ds 1) (cat [.one (.ref 2)] (cat (ds 1) (cat [.one (.ref 3)] (cat (ds 1) (cat [.one (.ref 4), .one (.ref 5), .one (.ref 6), .one (.val (.int .i64))] (ds 178))))))))))), [.var [.val (.slice (.st 1)), .val (.slice (.st 1))], .arr (.st 1), .arr (.st 1), .arr (.st 4), .arr (.st 4), .arr (.st 4), .arr (.st 1)], false⟩, fun k x => steeplelaw15_CubeBinds.l14 k x.1.1 x.1.2.1 x.1.2.2.1 x.2.1.1 x.2.1.2.1 x.2.2.1 x.2.2.2.1 x.2.2.2.2.1 x.2.2.2.2.2.1 x.2.2.2.2.2.2.1 x.2.2.2.2.2.2.2.1⟩]
theorem steeplelaw15_CubeBinds.ok (k : Nat) : Okf (XR E) Try.prog 4 (steeplelaw15_CubeBinds.sig k) := ⟨fn_ok (C := fun k => tab.ctx fun f => lk f (steeplelaw15_CubeBinds.calls k)) (fun k => tie _) k (fun j hj => calls_ok (kc (cube_First.ok j) (kc (cube_Last.ok j) (kc (steeplelaw01_Ref.ok j) (kc (steepleref15_May.ok j) (kc (steeplelaw15_awake.ok j) (kc (steepleref15_First.ok j) (kc (steepleref15_Last.ok j) (kc (steeplelaw01_Same.ok j) (kc (cube_At.ok j) (kn))))))))))) 400 Try.func4 (body := steeplelaw15_CubeBinds.body) (res := [.tmp 6]) rfl (by kernel_rfl) steeplelaw15_CubeBinds.cuts (kc ⟨by kernel_rfl, rfl, fun _ => rfl, fun _ _ => by kernel_rfl⟩ (kc ⟨by kernel_rfl, rfl, fun _ => rfl, fun _ _ => by kernel_rfl⟩ (kn))) (fun x => by kernel_rfl), _, Try.func4, by kernel_rfl, by kernel_rfl⟩
/-! ### steeple/steeplelaw19.few: function 30 -/
def steeplelaw19_few.l4 : Nat → List (List S38) → Int → Option Bool
  | 0, _, _ => none
  | k + 1, x0, x1 => if x1 < (x0.length : Int) then (if 0 ≤ x1 then (if x1 < (x0.length : Int) then (if ((rdL x0 x1).length : Int) > 20 then some false else steeplelaw19_few.l4 k x0 (wrap64 (x1 + 1))) else none) else none) else some true
def steeplelaw19_few.f (k : Nat) (a0 : Int) (a1 : List (List S38)) : Option Bool := if a0 > 4 then (if a0 ≤ 7 then some false else steeplelaw19_few.l4 k a1 0) else steeplelaw19_few.l4 k a1 0
def steeplelaw19_few.sig (k : Nat) : Sig E.toTys := ⟨[.int .i64, .slice (.slice (.st 1))], [(false, .bool)], none, fun x => f k x.1 x.2.1⟩
noncomputable def steeplelaw19_few.body : Code := Try.f30.body.getD .skip
def steeplelaw19_few.calls (k : Nat) : List (Nat × Sig E.toTys) := []
def steeplelaw19_few.cuts : List (Cut E (RT E.toTys [(false, .bool)])) := [⟨true, 4, ⟨cat (ds 1) (cat [.one (.val (.slice (.slice (.st 1))))] (cat (ds 3) (cat [.one (.val (.int .i64))] (ds 18)))), [], false⟩, fun k x => steeplelaw19_few.l4 k x.1.1 x.1.2.1⟩]
theorem steeplelaw19_few.ok (k : Nat) : Okf (XR E) Try.prog 30 (steeplelaw19_few.sig k) := ⟨fn_ok (C := fun k => tab.ctx fun f => lk f (steeplelaw19_few.calls k)) (fun k => tie _) k (fun j hj => calls_ok (kn)) 400 Try.func30 (body := steeplelaw19_few.body) (res := [.tmp 4]) rfl (by kernel_rfl) steeplelaw19_few.cuts (kc ⟨by kernel_rfl, rfl, fun _ => rfl, fun _ _ => by kernel_rfl⟩ (kn)) (fun x => by kernel_rfl), _, Try.func30, by kernel_rfl, by kernel_rfl⟩
/-! ### steeple/packv.size: function 94 -/
def packv_size.f (k : Nat) (a0 : Int) : Option Int := (octet_Wide.f k a0).bind fun r0 => if r0 = 0 then some 0 else if 0 ≤ a0 then some (shl .i64 1 a0) else none
def packv_size.sig (k : Nat) : Sig E.toTys := ⟨[.int .i64], [(false, .int .i64)], none, fun x => f k x.1⟩
noncomputable def packv_size.body : Code := Try.f94.body.getD .skip
def packv_size.calls (k : Nat) : List (Nat × Sig E.toTys) := [(77, octet_Wide.sig k)]
def packv_size.cuts : List (Cut E (RT E.toTys [(false, .int .i64)])) := []
theorem packv_size.ok (k : Nat) : Okf (XR E) Try.prog 94 (packv_size.sig k) := ⟨fn_ok (C := fun k => tab.ctx fun f => lk f (packv_size.calls k)) (fun k => tie _) k (fun j hj => calls_ok (kc (octet_Wide.ok j) (kn))) 400 Try.func94 (body := packv_size.body) (res := [.tmp 2]) rfl (by kernel_rfl) packv_size.cuts (kn) (fun x => by kernel_rfl), _, Try.func94, by kernel_rfl, by kernel_rfl⟩
/-! ### steeple/tower.Bit: function 96 -/
mutual
def tower_Bit.j3 : Nat → Int → Int → Int → Option S38
  | 0, _, _, _ => none
  | k + 1, x0, x1, x2 => if x0 ≥ 64 then (if x0 < 128 then (if 0 ≤ wrap64 (x0 - 64) then some (⟨shl .u64 1 (wrap64 (x0 - 64)), 0⟩ : S38) else none) else tower_Bit.j5 k x1 x2) else tower_Bit.j5 k x1 x2
def tower_Bit.j5 : Nat → Int → Int → Option S38
  | 0, _, _ => none
  | k + 1, _, _ => some (⟨0, 0⟩ : S38)
end
def tower_Bit.f (k : Nat) (a0 : Int) : Option S38 := if a0 ≥ 0 then (if a0 < 64 then (if 0 ≤ a0 then some (⟨0, shl .u64 1 a0⟩ : S38) else none) else tower_Bit.j3 k a0 0 0) else tower_Bit.j3 k a0 0 0
def tower_Bit.sig (k : Nat) : Sig E.toTys := ⟨[.int .i64], [(false, .st 1)], none, fun x => f k x.1⟩
noncomputable def tower_Bit.body : Code := Try.f96.body.getD .skip
def tower_Bit.calls (k : Nat) : List (Nat × Sig E.toTys) := []
def tower_Bit.cuts : List (Cut E (RT E.toTys [(false, .st 1)])) := [⟨false, 3, ⟨cat [.one (.val (.int .i64))] (cat (ds 1) (cat [.one (.ptr 0 0)] (ds 22))), [.var [.val (.int .u64), .val (.int .u64)]], false⟩, fun k x => tower_Bit.j3 k x.1.1 x.2.1.1 x.2.1.2.1⟩,
  ⟨false, 5, ⟨cat (ds 2) (cat [.one (.ptr 0 0)] (ds 22)), [.var [.val (.int .u64), .val (.int .u64)]], false⟩, fun k x => tower_Bit.j5 k x.2.1.1 x.2.1.2.1⟩]
theorem tower_Bit.ok (k : Nat) : Okf (XR E) Try.prog 96 (tower_Bit.sig k) := ⟨fn_ok (C := fun k => tab.ctx fun f => lk f (tower_Bit.calls k)) (fun k => tie _) k (fun j hj => calls_ok (kn)) 400 Try.func96 (body := tower_Bit.body) (res := [.cell 2 38]) rfl (by kernel_rfl) tower_Bit.cuts (kc ⟨by kernel_rfl, rfl, fun _ => rfl, fun _ _ => by kernel_rfl⟩ (kc ⟨by kernel_rfl, rfl, fun _ => rfl, fun _ _ => by kernel_rfl⟩ (kn))) (fun x => by kernel_rfl), _, Try.func96, by kernel_rfl, by kernel_rfl⟩
/-! ### steeple/tower.Bits: function 132 -/
def tower_Bits.l5 : Nat → Int → Int → Int → Int → List Bool → Option (List Bool)
  | 0, _, _, _, _, _ => none
  | k + 1, x0, x1, x2, x3, x4 => if x1 < x0 then ((tower_Bit.f k x1).bind fun r1 => if x4.length + [!decide (bits .or .u64 (bits .and .u64 x3 r1.f1) (bits .and .u64 x2 r1.f0) = 0)].length ≤ 140737488355328 / 1 then tower_Bits.l5 k x0 (wrap64 (x1 + 1)) x2 x3 (x4 ++ [!decide (bits .or .u64 (bits .and .u64 x3 r1.f1) (bits .and .u64 x2 r1.f0) = 0)]) else none) else some x4
def tower_Bits.f (k : Nat) (a0 : Int) (a1 : S38) : Option (List Bool) := (octet_Of.f k a0 a1).bind fun r0 => if (!r0) = true then some [] else if 0 ≤ a0 then tower_Bits.l5 k (shl .i64 1 a0) 0 a1.f0 a1.f1 [] else none
def tower_Bits.sig (k : Nat) : Sig E.toTys := ⟨[.int .i64, .st 1], [(true, .slice .bool)], none, fun x => f k x.1 x.2.1⟩
noncomputable def tower_Bits.body : Code := Try.f132.body.getD .skip
def tower_Bits.calls (k : Nat) : List (Nat × Sig E.toTys) := [(82, octet_Of.sig k), (96, tower_Bit.sig k)]
def tower_Bits.cuts : List (Cut E (RT E.toTys [(true, .slice .bool)])) := [⟨true, 5, ⟨cat (ds 3) (cat [.one (.ptr 0 0)] (cat (ds 1) (cat [.one (.ref 1)] (cat (ds 7) (cat [.one (.val (.int .i64)), .one (.val (.int .i64))] (ds 21)))))), [.var [.val (.int .u64), .val (.int .u64)], .arr (.bool)], false⟩, fun k x => tower_Bits.l5 k x.1.1 x.1.2.1 x.2.1.1 x.2.1.2.1 x.2.2.1⟩]
theorem tower_Bits.ok (k : Nat) : Okf (XR E) Try.prog 132 (tower_Bits.sig k) := ⟨fn_ok (C := fun k => tab.ctx fun f => lk f (tower_Bits.calls k)) (fun k => tie _) k (fun j hj => calls_ok (kc (octet_Of.ok j) (kc (tower_Bit.ok j) (kn)))) 400 Try.func132 (body := tower_Bits.body) (res := [.tmp 4]) rfl (by kernel_rfl) tower_Bits.cuts (kc ⟨by kernel_rfl, rfl, fun _ => rfl, fun _ _ => by kernel_rfl⟩ (kn)) (fun x => by kernel_rfl), _, Try.func132, by kernel_rfl, by kernel_rfl⟩
/-! ### steeple/packv.Left: function 91 -/
def packv_Left.l5 : Nat → Int → Int → List S38 → List Bool → Option (List S38)
  | 0, _, _, _, _ => none
  | k + 1, x0, x1, x2, x3 => if x1 < x0 then (if 0 ≤ x1 then (if x1 < (x3.length : Int) then (if (rdB x3 x1) = true then ((tower_One.f k).bind fun r3 => if 0 ≤ x1 then (if x1 < (x2.length : Int) then packv_Left.l5 k x0 (wrap64 (x1 + 1)) (x2.set (Int.toNat x1) r3) x3 else none) else none) else packv_Left.l5 k x0 (wrap64 (x1 + 1)) x2 x3) else none) else none) else some x2
def packv_Left.f (k : Nat) (a0 : Int) (a1 : S38) : Option (List S38) := (octet_Of.f k a0 a1).bind fun r0 => if (!r0) = true then some [] else (packv_size.f k a0).bind fun r1 => if 0 ≤ r1 then (if r1 ≤ 140737488355328 / ((16 : Nat) : Int) then ((tower_Bits.f k a0 a1).bind fun r2 => packv_Left.l5 k (r2.length : Int) 0 (List.replicate (Int.toNat r1) z38) r2) else none) else none
def packv_Left.sig (k : Nat) : Sig E.toTys := ⟨[.int .i64, .st 1], [(true, .slice (.st 1))], none, fun x => f k x.1 x.2.1⟩
noncomputable def packv_Left.body : Code := Try.f91.body.getD .skip
def packv_Left.calls (k : Nat) : List (Nat × Sig E.toTys) := [(82, octet_Of.sig k), (94, packv_size.sig k), (132, tower_Bits.sig k), (98, tower_One.sig k)]
def packv_Left.cuts : List (Cut E (RT E.toTys [(true, .slice (.st 1))])) := [⟨true, 5, ⟨cat (ds 5) (cat [.one (.ref 0)] (cat (ds 11) (cat [.one (.ref 1), .one (.val (.int .i64)), .one (.val (.int .i64))] (ds 11)))), [.arr (.st 1), .arr (.bool)], false⟩, fun k x => packv_Left.l5 k x.1.1 x.1.2.1 x.2.1 x.2.2.1⟩]
theorem packv_Left.ok (k : Nat) : Okf (XR E) Try.prog 91 (packv_Left.sig k) := ⟨fn_ok (C := fun k => tab.ctx fun f => lk f (packv_Left.calls k)) (fun k => tie _) k (fun j hj => calls_ok (kc (octet_Of.ok j) (kc (packv_size.ok j) (kc (tower_Bits.ok j) (kc (tower_One.ok j) (kn)))))) 400 Try.func91 (body := packv_Left.body) (res := [.tmp 4]) rfl (by kernel_rfl) packv_Left.cuts (kc ⟨by kernel_rfl, rfl, fun _ => rfl, fun _ _ => by kernel_rfl⟩ (kn)) (fun x => by kernel_rfl), _, Try.func91, by kernel_rfl, by kernel_rfl⟩
/-! ### steeple/packv.Right: function 92 -/
def packv_Right.f (k : Nat) (a0 : Int) (a1 : S38) : Option (List S38) := (octet_Of.f k a0 a1).bind fun r0 => if (!r0) = true then some [] else (packv_size.f k a0).bind fun r1 => if 0 ≤ r1 then (if r1 ≤ 140737488355328 / ((16 : Nat) : Int) then (if 0 < ((List.replicate (Int.toNat r1) z38).length : Int) then some ((List.replicate (Int.toNat r1) z38).set (Int.toNat (0 : Int)) a1) else none) else none) else none
def packv_Right.sig (k : Nat) : Sig E.toTys := ⟨[.int .i64, .st 1], [(true, .slice (.st 1))], none, fun x => f k x.1 x.2.1⟩
noncomputable def packv_Right.body : Code := Try.f92.body.getD .skip
def packv_Right.calls (k : Nat) : List (Nat × Sig E.toTys) := [(82, octet_Of.sig k), (94, packv_size.sig k)]
def packv_Right.cuts : List (Cut E (RT E.toTys [(true, .slice (.st 1))])) := []
theorem packv_Right.ok (k : Nat) : Okf (XR E) Try.prog 92 (packv_Right.sig k) := ⟨fn_ok (C := fun k => tab.ctx fun f => lk f (packv_Right.calls k)) (fun k => tie _) k (fun j hj => calls_ok (kc (octet_Of.ok j) (kc (packv_size.ok j) (kn)))) 400 Try.func92 (body := packv_Right.body) (res := [.tmp 4]) rfl (by kernel_rfl) packv_Right.cuts (kn) (fun x => by kernel_rfl), _, Try.func92, by kernel_rfl, by kernel_rfl⟩
/-! ### steeple/packv.ask$1: function 133 -/
def packv_ask_1.f (k : Nat) (a0 : S38) (a1 : Option Int) : Option Bool := (match a1 with | none => none | some r0 => (octet_Of.f k r0 a0).bind fun r1 => some (!r1))
def packv_ask_1.sig (k : Nat) : Sig E.toTys := ⟨[.st 1, .ptr (.int .i64)], [(false, .bool)], none, fun x => f k x.1 x.2.1⟩
noncomputable def packv_ask_1.body : Code := Try.f133.body.getD .skip
def packv_ask_1.calls (k : Nat) : List (Nat × Sig E.toTys) := [(82, octet_Of.sig k)]
def packv_ask_1.cuts : List (Cut E (RT E.toTys [(false, .bool)])) := []
theorem packv_ask_1.ok (k : Nat) : Okf (XR E) Try.prog 133 (packv_ask_1.sig k) := ⟨fn_ok (C := fun k => tab.ctx fun f => lk f (packv_ask_1.calls k)) (fun k => tie _) k (fun j hj => calls_ok (kc (octet_Of.ok j) (kn))) 400 Try.func133 (body := packv_ask_1.body) (res := [.tmp 3]) rfl (by kernel_rfl) packv_ask_1.cuts (kn) (fun x => by kernel_rfl), _, Try.func133, by kernel_rfl, by kernel_rfl⟩
/-! ### slices.IndexFunc: function 164 -/
def slices_IndexFunc164_c133.l2 : Nat → List S38 → Int → Int → Int → Option Int
  | 0, _, _, _, _ => none
  | k + 1, x0, x1, x2, x3 => if x3 < x2 then (if 0 ≤ x3 then (if x3 < (x0.length : Int) then ((packv_ask_1.f k (rd38 x0 x3) (some x1)).bind fun r0 => if r0 = true then some x3 else slices_IndexFunc164_c133.l2 k x0 x1 x2 (wrap64 (x3 + 1))) else none) else none) else some (-1)
def slices_IndexFunc164_c133.f (k : Nat) (a0 : List S38) (a1 : Int) : Option Int := slices_IndexFunc164_c133.l2 k a0 a1 (a0.length : Int) 0
def slices_IndexFunc164_c133.sig (k : Nat) : Sig E.toTys := ⟨[.slice (.st 1), .ext 133 (.int .i64)], [(false, .int .i64)], none, fun x => f k x.1 x.2.1⟩
noncomputable def slices_IndexFunc164_c133.body : Code := Try.f164.body.getD .skip
def slices_IndexFunc164_c133.calls (k : Nat) : List (Nat × Sig E.toTys) := [(133, packv_ask_1.sig k)]
def slices_IndexFunc164_c133.cuts : List (Cut E (RT E.toTys [(false, .int .i64)])) := [⟨true, 2, ⟨cat [.one (.val (.slice (.st 1))), .one (.val (.ext 133 (.int .i64)))] (cat (ds 5) (cat [.one (.val (.int .i64)), .one (.val (.int .i64))] (ds 10))), [], false⟩, fun k x => slices_IndexFunc164_c133.l2 k x.1.1 x.1.2.1 x.1.2.2.1 x.1.2.2.2.1⟩]
theorem slices_IndexFunc164_c133.ok (k : Nat) : Okf (XR E) Try.prog 164 (slices_IndexFunc164_c133.sig k) := ⟨fn_ok (C := fun k => tab.ctx fun f => lk f (slices_IndexFunc164_c133.calls k)) (fun k => tie _) k (fun j hj => calls_ok (kc (packv_ask_1.ok j) (kn))) 400 Try.func164 (body := slices_IndexFunc164_c133.body) (res := [.tmp 4]) rfl (by kernel_rfl) slices_IndexFunc164_c133.cuts (kc ⟨by kernel_rfl, rfl, fun _ => rfl, fun _ _ => by kernel_rfl⟩ (kn)) (fun x => by kernel_rfl), _, Try.func164, by kernel_rfl, by kernel_rfl⟩
/-! ### slices.ContainsFunc: function 134 -/
def slices_ContainsFunc134_c133.f (k : Nat) (a0 : List S38) (a1 : Int) : Option Bool := (slices_IndexFunc164_c133.f k a0 a1).bind fun r0 => some (decide (r0 ≥ 0))
def slices_ContainsFunc134_c133.sig (k : Nat) : Sig E.toTys := ⟨[.slice (.st 1), .ext 133 (.int .i64)], [(false, .bool)], none, fun x => f k x.1 x.2.1⟩
noncomputable def slices_ContainsFunc134_c133.body : Code := Try.f134.body.getD .skip
def slices_ContainsFunc134_c133.calls (k : Nat) : List (Nat × Sig E.toTys) := [(164, slices_IndexFunc164_c133.sig k)]
def slices_ContainsFunc134_c133.cuts : List (Cut E (RT E.toTys [(false, .bool)])) := []
theorem slices_ContainsFunc134_c133.ok (k : Nat) : Okf (XR E) Try.prog 134 (slices_ContainsFunc134_c133.sig k) := ⟨fn_ok (C := fun k => tab.ctx fun f => lk f (slices_ContainsFunc134_c133.calls k)) (fun k => tie _) k (fun j hj => calls_ok (kc (slices_IndexFunc164_c133.ok j) (kn))) 400 Try.func134 (body := slices_ContainsFunc134_c133.body) (res := [.tmp 4]) rfl (by kernel_rfl) slices_ContainsFunc134_c133.cuts (kn) (fun x => by kernel_rfl), _, Try.func134, by kernel_rfl, by kernel_rfl⟩
/-! ### slices.IndexFunc: function 159 -/
def slices_IndexFunc159_c133.l2 : Nat → List S38 → Int → Int → Int → Option Int
  | 0, _, _, _, _ => none
  | k + 1, x0, x1, x2, x3 => if x3 < x2 then (if 0 ≤ x3 then (if x3 < (x0.length : Int) then ((packv_ask_1.f k (rd38 x0 x3) (some x1)).bind fun r0 => if r0 = true then some x3 else slices_IndexFunc159_c133.l2 k x0 x1 x2 (wrap64 (x3 + 1))) else none) else none) else some (-1)
def slices_IndexFunc159_c133.f (k : Nat) (a0 : List S38) (a1 : Int) : Option Int := slices_IndexFunc159_c133.l2 k a0 a1 (a0.length : Int) 0
def slices_IndexFunc159_c133.sig (k : Nat) : Sig E.toTys := ⟨[.slice (.st 1), .ext 133 (.int .i64)], [(false, .int .i64)], none, fun x => f k x.1 x.2.1⟩
noncomputable def slices_IndexFunc159_c133.body : Code := Try.f159.body.getD .skip
def slices_IndexFunc159_c133.calls (k : Nat) : List (Nat × Sig E.toTys) := [(133, packv_ask_1.sig k)]
def slices_IndexFunc159_c133.cuts : List (Cut E (RT E.toTys [(false, .int .i64)])) := [⟨true, 2, ⟨cat [.one (.val (.slice (.st 1))), .one (.val (.ext 133 (.int .i64)))] (cat (ds 5) (cat [.one (.val (.int .i64)), .one (.val (.int .i64))] (ds 10))), [], false⟩, fun k x => slices_IndexFunc159_c133.l2 k x.1.1 x.1.2.1 x.1.2.2.1 x.1.2.2.2.1⟩]
theorem slices_IndexFunc159_c133.ok (k : Nat) : Okf (XR E) Try.prog 159 (slices_IndexFunc159_c133.sig k) := ⟨fn_ok (C := fun k => tab.ctx fun f => lk f (slices_IndexFunc159_c133.calls k)) (fun k => tie _) k (fun j hj => calls_ok (kc (packv_ask_1.ok j) (kn))) 400 Try.func159 (body := slices_IndexFunc159_c133.body) (res := [.tmp 4]) rfl (by kernel_rfl) slices_IndexFunc159_c133.cuts (kc ⟨by kernel_rfl, rfl, fun _ => rfl, fun _ _ => by kernel_rfl⟩ (kn)) (fun x => by kernel_rfl), _, Try.func159, by kernel_rfl, by kernel_rfl⟩
/-! ### slices.ContainsFunc: function 126 -/
def slices_ContainsFunc126_c133.f (k : Nat) (a0 : List S38) (a1 : Int) : Option Bool := (slices_IndexFunc159_c133.f k a0 a1).bind fun r0 => some (decide (r0 ≥ 0))
def slices_ContainsFunc126_c133.sig (k : Nat) : Sig E.toTys := ⟨[.slice (.st 1), .ext 133 (.int .i64)], [(false, .bool)], none, fun x => f k x.1 x.2.1⟩
noncomputable def slices_ContainsFunc126_c133.body : Code := Try.f126.body.getD .skip
def slices_ContainsFunc126_c133.calls (k : Nat) : List (Nat × Sig E.toTys) := [(159, slices_IndexFunc159_c133.sig k)]
def slices_ContainsFunc126_c133.cuts : List (Cut E (RT E.toTys [(false, .bool)])) := []
theorem slices_ContainsFunc126_c133.ok (k : Nat) : Okf (XR E) Try.prog 126 (slices_ContainsFunc126_c133.sig k) := ⟨fn_ok (C := fun k => tab.ctx fun f => lk f (slices_ContainsFunc126_c133.calls k)) (fun k => tie _) k (fun j hj => calls_ok (kc (slices_IndexFunc159_c133.ok j) (kn))) 400 Try.func126 (body := slices_ContainsFunc126_c133.body) (res := [.tmp 4]) rfl (by kernel_rfl) slices_ContainsFunc126_c133.cuts (kn) (fun x => by kernel_rfl), _, Try.func126, by kernel_rfl, by kernel_rfl⟩
/-! ### steeple/packv.ask: function 93 -/
mutual
def packv_ask.l4 : Nat → List (List S38) → List S38 → List (List S38) → Int → Int → Int → Option Int
  | 0, _, _, _, _, _, _ => none
  | k + 1, x0, x1, x2, x3, x4, x5 => if x4 < x3 then (if 0 ≤ x4 then (if x4 < (x2.length : Int) then ((packv_size.f k x5).bind fun r1 => if ((rdL x2 x4).length : Int) = r1 then packv_ask.l4 k x0 x1 x2 x3 (wrap64 (x4 + 1)) x5 else some 6) else none) else none) else packv_ask.l11 k x1 x0 (x0.length : Int) 0 x5
def packv_ask.l11 : Nat → List S38 → List (List S38) → Int → Int → Int → Option Int
  | 0, _, _, _, _, _ => none
  | k + 1, x0, x1, x2, x3, x4 => if x3 < x2 then (if 0 ≤ x3 then (if x3 < (x1.length : Int) then ((slices_ContainsFunc134_c133.f k (rdL x1 x3) x4).bind fun r2 => if r2 = true then some 5 else packv_ask.l11 k x0 x1 x2 (wrap64 (x3 + 1)) x4) else none) else none) else (slices_ContainsFunc126_c133.f k x0 x4).bind fun r3 => if r3 = true then some 5 else some 0
end
def packv_ask.f (k : Nat) (a0 : Int) (a1 : List (List S38)) (a2 : List S38) : Option Int := (packv_size.f k a0).bind fun r0 => if r0 = 0 then some 1 else packv_ask.l4 k a1 a2 a1 (a1.length : Int) 0 a0
def packv_ask.sig (k : Nat) : Sig E.toTys := ⟨[.int .i64, .slice (.slice (.st 1)), .slice (.st 1)], [(false, .int .i64)], none, fun x => f k x.1 x.2.1 x.2.2.1⟩
noncomputable def packv_ask.body : Code := Try.f93.body.getD .skip
def packv_ask.calls (k : Nat) : List (Nat × Sig E.toTys) := [(94, packv_size.sig k), (134, slices_ContainsFunc134_c133.sig k), (126, slices_ContainsFunc126_c133.sig k)]
def packv_ask.cuts : List (Cut E (RT E.toTys [(false, .int .i64)])) := [⟨true, 4, ⟨cat (ds 1) (cat [.one (.val (.slice (.slice (.st 1)))), .one (.val (.slice (.st 1))), .one (.ptr 0 0)] (cat (ds 11) (cat [.one (.val (.slice (.slice (.st 1)))), .one (.val (.int .i64)), .one (.val (.int .i64))] (ds 23)))), [.var [.val (.int .i64)]], false⟩, fun k x => packv_ask.l4 k x.1.1 x.1.2.1 x.1.2.2.1 x.1.2.2.2.1 x.1.2.2.2.2.1 x.2.1.1⟩,
  ⟨true, 11, ⟨cat (ds 2) (cat [.one (.val (.slice (.st 1)))] (cat (ds 6) (cat [.clo 133 [.ptr 0 0]] (cat (ds 18) (cat [.one (.val (.slice (.slice (.st 1)))), .one (.val (.int .i64)), .one (.val (.int .i64))] (ds 10)))))), [.var [.val (.int .i64)]], false⟩, fun k x => packv_ask.l11 k x.1.1 x.1.2.2.1 x.1.2.2.2.1 x.1.2.2.2.2.1 x.2.1.1⟩]
theorem packv_ask.ok (k : Nat) : Okf (XR E) Try.prog 93 (packv_ask.sig k) := ⟨fn_ok (C := fun k => tab.ctx fun f => lk f (packv_ask.calls k)) (fun k => tie _) k (fun j hj => calls_ok (kc (packv_size.ok j) (kc (slices_ContainsFunc134_c133.ok j) (kc (slices_ContainsFunc126_c133.ok j) (kn))))) 400 Try.func93 (body := packv_ask.body) (res := [.tmp 6]) rfl (by kernel_rfl) packv_ask.cuts (kc ⟨by kernel_rfl, rfl, fun _ => rfl, fun _ _ => by kernel_rfl⟩ (kc ⟨by kernel_rfl, rfl, fun _ => rfl, fun _ _ => by kernel_rfl⟩ (kn))) (fun x => by kernel_rfl), _, Try.func93, by kernel_rfl, by kernel_rfl⟩
/-! ### steeple/packv.byLeft: function 95 -/
mutual
def packv_byLeft.l2 : Nat → Int → List S38 → Int → Int → List S38 → Int → Int → Int → Int → Option (List S38)
  | 0, _, _, _, _, _, _, _, _, _ => none
  | k + 1, x0, x1, x2, x3, x4, x5, x6, x7, x8 => if x3 < x2 then (if 0 ≤ x3 then (if x3 < (x1.length : Int) then ((tower_Mul.f k x0 (rd38 x1 x3) (⟨x7, x8⟩ : S38)).bind fun r0 => if r0.f0 = 0 ∧ r0.f1 = 0 then packv_byLeft.l2 k x0 x1 x2 (wrap64 (x3 + 1)) x4 x5 x6 x7 x8 else (tower_Bit.f k x3).bind fun r1 => (tower_Mul.f k x0 r1 (⟨x5, x6⟩ : S38)).bind fun r2 => (tower_Bits.f k x0 r2).bind fun r3 => packv_byLeft.l7 k x0 x1 x2 x3 (r3.length : Int) 0 x4 x5 x6 x7 x8 r0.f0 r0.f1 r3) else none) else none) else some x4
def packv_byLeft.l7 : Nat → Int → List S38 → Int → Int → Int → Int → List S38 → Int → Int → Int → Int → Int → Int → List Bool → Option (List S38)
  | 0, _, _, _, _, _, _, _, _, _, _, _, _, _, _ => none
  | k + 1, x0, x1, x2, x3, x4, x5, x6, x7, x8, x9, x10, x11, x12, x13 => if x5 < x4 then (if 0 ≤ x5 then (if x5 < (x13.length : Int) then (if (rdB x13 x5) = true then (if 0 ≤ x5 then (if x5 < (x6.length : Int) then ((tower_Add.f k (rd38 x6 x5) (⟨x11, x12⟩ : S38)).bind fun r4 => if 0 ≤ x5 then (if x5 < (x6.length : Int) then packv_byLeft.l7 k x0 x1 x2 x3 x4 (wrap64 (x5 + 1)) (x6.set (Int.toNat x5) r4) x7 x8 x9 x10 x11 x12 x13 else none) else none) else none) else none) else packv_byLeft.l7 k x0 x1 x2 x3 x4 (wrap64 (x5 + 1)) x6 x7 x8 x9 x10 x11 x12 x13) else none) else none) else packv_byLeft.l2 k x0 x1 x2 (wrap64 (x3 + 1)) x6 x7 x8 x9 x10
end
def packv_byLeft.f (k : Nat) (a0 : Int) (a1 : List S38) (a2 : List S38) (a3 : S38) (a4 : S38) : Option (List S38) := packv_byLeft.l2 k a0 a2 (a2.length : Int) 0 a1 a3.f0 a3.f1 a4.f0 a4.f1
def packv_byLeft.sig (k : Nat) : Sig E.toTys := ⟨[.int .i64, .slice (.st 1), .slice (.st 1), .st 1, .st 1], [(true, .slice (.st 1))], some 1, fun x => f k x.1 x.2.1 x.2.2.1 x.2.2.2.1 x.2.2.2.2.1⟩
noncomputable def packv_byLeft.body : Code := Try.f95.body.getD .skip
def packv_byLeft.calls (k : Nat) : List (Nat × Sig E.toTys) := [(83, tower_Mul.sig k), (96, tower_Bit.sig k), (132, tower_Bits.sig k), (80, tower_Add.sig k)]
def packv_byLeft.cuts : List (Cut E (RT E.toTys [(true, .slice (.st 1))])) := [⟨true, 2, ⟨cat [.one (.val (.int .i64)), .one (.ref 0)] (cat (ds 6) (cat [.one (.ptr 1 0), .one (.ptr 2 0)] (cat (ds 5) (cat [.one (.val (.slice (.st 1))), .one (.val (.int .i64)), .one (.val (.int .i64))] (ds 36))))), [.arr (.st 1), .var [.val (.int .u64), .val (.int .u64)], .var [.val (.int .u64), .val (.int .u64)]], true⟩, fun k x => packv_byLeft.l2 k x.1.1 x.1.2.1 x.1.2.2.1 x.1.2.2.2.1 x.2.1 x.2.2.1.1 x.2.2.1.2.1 x.2.2.2.1.1 x.2.2.2.1.2.1⟩,
  ⟨true, 7, ⟨cat [.one (.val (.int .i64)), .one (.ref 0)] (cat (ds 6) (cat [.one (.ptr 1 0), .one (.ptr 2 0)] (cat (ds 2) (cat [.one (.ptr 3 0)] (cat (ds 2) (cat [.one (.val (.slice (.st 1))), .one (.val (.int .i64)), .one (.val (.int .i64))] (cat (ds 17) (cat [.one (.ref 4), .one (.val (.int .i64)), .one (.val (.int .i64))] (ds 16))))))))), [.arr (.st 1), .var [.val (.int .u64), .val (.int .u64)], .var [.val (.int .u64), .val (.int .u64)], .var [.val (.int .u64), .val (.int .u64)], .arr (.bool)], true⟩, fun k x => packv_byLeft.l7 k x.1.1 x.1.2.1 x.1.2.2.1 x.1.2.2.2.1 x.1.2.2.2.2.1 x.1.2.2.2.2.2.1 x.2.1 x.2.2.1.1 x.2.2.1.2.1 x.2.2.2.1.1 x.2.2.2.1.2.1 x.2.2.2.2.1.1 x.2.2.2.2.1.2.1 x.2.2.2.2.2.1⟩]
theorem packv_byLeft.ok (k : Nat) : Okf (XR E) Try.prog 95 (packv_byLeft.sig k) := ⟨fn_okIO (C := fun k => tab.ctx fun f => lk f (packv_byLeft.calls k)) (fun k => tie _) k (fun j hj => calls_ok (kc (tower_Mul.ok j) (kc (tower_Bit.ok j) (kc (tower_Bits.ok j) (kc (tower_Add.ok j) (kn)))))) 400 1 Try.func95 (body := packv_byLeft.body) (res := []) rfl (by kernel_rfl) packv_byLeft.cuts (kc ⟨by kernel_rfl, rfl, fun _ => rfl, fun _ _ => by kernel_rfl⟩ (kc ⟨by kernel_rfl, rfl, fun _ => rfl, fun _ _ => by kernel_rfl⟩ (kn))) (fun x => by kernel_rfl), _, Try.func95, by kernel_rfl, by kernel_rfl⟩
end Go.Proofs.Ytdpbogooceiaaaa.B
namespace Go.Proofs.Ytdpbogooceiaaaa.B
open Go.Proofs.Ytdpbogooceiaaaa.V.B Go.RowKit
set_option linter.unusedVariables false
/-! ### steeple/packv.Times: function 32 -/
def packv_Times.l6 : Nat → Int → List S38 → List S38 → Int → Int → List S38 → Option ((List S38) × Int)
  | 0, _, _, _, _, _, _ => none
  | k + 1, x0, x1, x2, x3, x4, x5 => if x4 < x3 then (if 0 ≤ x4 then (if x4 < (x2.length : Int) then ((tower_Bit.f k x4).bind fun r2 => (packv_byLeft.f k x0 x5 x1 r2 (rd38 x2 x4)).bind fun r3 => packv_Times.l6 k x0 x1 x2 x3 (wrap64 (x4 + 1)) r3) else none) else none) else some (x5, 0)
def packv_Times.f (k : Nat) (a0 : Int) (a1 : List S38) (a2 : List S38) : Option ((List S38) × Int) := (packv_ask.f k a0 [a1, a2] []).bind fun r0 => if r0 = 0 then ((packv_size.f k a0).bind fun r1 => if 0 ≤ r1 then (if r1 ≤ 140737488355328 / ((16 : Nat) : Int) then packv_Times.l6 k a0 a1 a2 (a2.length : Int) 0 (List.replicate (Int.toNat r1) z38) else none) else none) else some ([], r0)
def packv_Times.sig (k : Nat) : Sig E.toTys := ⟨[.int .i64, .slice (.st 1), .slice (.st 1)], [(true, .slice (.st 1)), (false, .int .i64)], none, fun x => f k x.1 x.2.1 x.2.2.1⟩
noncomputable def packv_Times.body : Code := Try.f32.body.getD .skip
def packv_Times.calls (k : Nat) : List (Nat × Sig E.toTys) := [(93, packv_ask.sig k), (94, packv_size.sig k), (96, tower_Bit.sig k), (95, packv_byLeft.sig k)]
def packv_Times.cuts : List (Cut E (RT E.toTys [(true, .slice (.st 1)), (false, .int .i64)])) := [⟨true, 6, ⟨cat [.one (.val (.int .i64)), .one (.val (.slice (.st 1)))] (cat (ds 7) (cat [.one (.ref 0)] (cat (ds 13) (cat [.one (.val (.slice (.st 1))), .one (.val (.int .i64)), .one (.val (.int .i64))] (ds 13))))), [.arr (.st 1)], false⟩, fun k x => packv_Times.l6 k x.1.1 x.1.2.1 x.1.2.2.1 x.1.2.2.2.1 x.1.2.2.2.2.1 x.2.1⟩]
theorem packv_Times.ok (k : Nat) : Okf (XR E) Try.prog 32 (packv_Times.sig k) := ⟨fn_ok (C := fun k => tab.ctx fun f => lk f (packv_Times.calls k)) (fun k => tie _) k (fun j hj => calls_ok (kc (packv_ask.ok j) (kc (packv_size.ok j) (kc (tower_Bit.ok j) (kc (packv_byLeft.ok j) (kn)))))) 400 Try.func32 (body := packv_Times.body) (res := [.tmp 6, .tmp 7]) rfl (by kernel_rfl) packv_Times.cuts (kc ⟨by kernel_rfl, rfl, fun _ => rfl, fun _ _ => by kernel_rfl⟩ (kn)) (fun x => by kernel_rfl), _, Try.func32, by kernel_rfl, by kernel_rfl⟩
/-! ### steeple/steeplelaw19.awake: function 31 -/
def steeplelaw19_awake.f (k : Nat) : Option Bool := (packv_Left.f k 1 (⟨0, 2⟩ : S38)).bind fun r0 => (packv_Right.f k 1 (⟨0, 2⟩ : S38)).bind fun r1 => (packv_Times.f k 1 r0 r1).bind fun r2 => if r2.2 = 0 then (if (r2.1.length : Int) = 2 then (if 0 < (r2.1.length : Int) then (if (rd38 r2.1 (0 : Int)).f0 = 0 ∧ (rd38 r2.1 (0 : Int)).f1 = 0 then (if 1 < (r2.1.length : Int) then some (decide ((rd38 r2.1 (1 : Int)).f0 = 0 ∧ (rd38 r2.1 (1 : Int)).f1 = 2)) else none) else some false) else none) else some false) else some false
def steeplelaw19_awake.sig (k : Nat) : Sig E.toTys := ⟨[], [(false, .bool)], none, fun x => f k⟩
noncomputable def steeplelaw19_awake.body : Code := Try.f31.body.getD .skip
def steeplelaw19_awake.calls (k : Nat) : List (Nat × Sig E.toTys) := [(91, packv_Left.sig k), (92, packv_Right.sig k), (32, packv_Times.sig k)]
def steeplelaw19_awake.cuts : List (Cut E (RT E.toTys [(false, .bool)])) := []
theorem steeplelaw19_awake.ok (k : Nat) : Okf (XR E) Try.prog 31 (steeplelaw19_awake.sig k) := ⟨fn_ok (C := fun k => tab.ctx fun f => lk f (steeplelaw19_awake.calls k)) (fun k => tie _) k (fun j hj => calls_ok (kc (packv_Left.ok j) (kc (packv_Right.ok j) (kc (packv_Times.ok j) (kn))))) 400 Try.func31 (body := steeplelaw19_awake.body) (res := [.tmp 0]) rfl (by kernel_rfl) steeplelaw19_awake.cuts (kn) (fun x => by kernel_rfl), _, Try.func31, by kernel_rfl, by kernel_rfl⟩
/-! ### slices.Clone: function 97 -/
def slices_Clone97.f (k : Nat) (a0 : List S38) : Option (List S38) := if ([] : List Int).length + a0.length ≤ 140737488355328 / 16 then some ([] ++ a0) else none
def slices_Clone97.sig (k : Nat) : Sig E.toTys := ⟨[.slice (.st 1)], [(true, .slice (.st 1))], none, fun x => f k x.1⟩
noncomputable def slices_Clone97.body : Code := Try.f97.body.getD .skip
def slices_Clone97.calls (k : Nat) : List (Nat × Sig E.toTys) := []
def slices_Clone97.cuts : List (Cut E (RT E.toTys [(true, .slice (.st 1))])) := []
noncomputable def slices_Clone97.fn0 : Func := Try.f97
def slices_Clone97.st0 (xs : List S38) : St E.toTys := ⟨[.c (.s (.val (.slice (.st 1)) xs)), .c (.s .dead), .c (.s .emp), .c (.s .dead), .c (.s .dead), .c (.s .dead), .c (.s .dead), .c (.s .dead)], []⟩
theorem slices_Clone97.ok (k : Nat) : Okf (XR E) Try.prog 97 (slices_Clone97.sig k) := ⟨clone_ok (C := tab.ctx fun f => lk f (slices_Clone97.calls k)) (tie _) (calls_ok kn) (t := 56) (u := .st 1) Try.func97 rfl (res := [.tmp 2]) (by kernel_rfl) ⟨rfl, rfl, rfl⟩ ⟨rfl, rfl, rfl⟩ (by kernel_rfl) slices_Clone97.st0 (fun x => by kernel_rfl) (fun _ => rfl) (fun _ _ => ⟨rfl, rfl⟩) (F := fun x => slices_Clone97.f k x) (by kernel_rfl) (fun xs => by kernel_rfl), _, Try.func97, by kernel_rfl, by kernel_rfl⟩
/-! ### steeple/packv.Add: function 33 -/
def packv_Add.l6 : Nat → List S38 → Int → Int → List S38 → Option ((List S38) × Int)
  | 0, _, _, _, _ => none
  | k + 1, x0, x1, x2, x3 => if x2 < x1 then (if 0 ≤ x2 then (if x2 < (x0.length : Int) then (if 0 ≤ x2 then (if x2 < (x3.length : Int) then ((tower_Add.f k (rd38 x3 x2) (rd38 x0 x2)).bind fun r2 => if 0 ≤ x2 then (if x2 < (x3.length : Int) then packv_Add.l6 k x0 x1 (wrap64 (x2 + 1)) (x3.set (Int.toNat x2) r2) else none) else none) else none) else none) else none) else none) else some (x3, 0)
def packv_Add.f (k : Nat) (a0 : Int) (a1 : List S38) (a2 : List S38) : Option ((List S38) × Int) := (packv_ask.f k a0 [a1, a2] []).bind fun r0 => if r0 = 0 then ((slices_Clone97.f k a1).bind fun r1 => packv_Add.l6 k a2 (a2.length : Int) 0 r1) else some ([], r0)
def packv_Add.sig (k : Nat) : Sig E.toTys := ⟨[.int .i64, .slice (.st 1), .slice (.st 1)], [(true, .slice (.st 1)), (false, .int .i64)], none, fun x => f k x.1 x.2.1 x.2.2.1⟩
noncomputable def packv_Add.body : Code := Try.f33.body.getD .skip
def packv_Add.calls (k : Nat) : List (Nat × Sig E.toTys) := [(93, packv_ask.sig k), (97, slices_Clone97.sig k), (80, tower_Add.sig k)]
def packv_Add.cuts : List (Cut E (RT E.toTys [(true, .slice (.st 1)), (false, .int .i64)])) := [⟨true, 6, ⟨cat (ds 9) (cat [.one (.ref 0)] (cat (ds 12) (cat [.one (.val (.slice (.st 1))), .one (.val (.int .i64)), .one (.val (.int .i64))] (ds 15)))), [.arr (.st 1)], false⟩, fun k x => packv_Add.l6 k x.1.1 x.1.2.1 x.1.2.2.1 x.2.1⟩]
theorem packv_Add.ok (k : Nat) : Okf (XR E) Try.prog 33 (packv_Add.sig k) := ⟨fn_ok (C := fun k => tab.ctx fun f => lk f (packv_Add.calls k)) (fun k => tie _) k (fun j hj => calls_ok (kc (packv_ask.ok j) (kc (slices_Clone97.ok j) (kc (tower_Add.ok j) (kn))))) 400 Try.func33 (body := packv_Add.body) (res := [.tmp 6, .tmp 7]) rfl (by kernel_rfl) packv_Add.cuts (kc ⟨by kernel_rfl, rfl, fun _ => rfl, fun _ _ => by kernel_rfl⟩ (kn)) (fun x => by kernel_rfl), _, Try.func33, by kernel_rfl, by kernel_rfl⟩
/-! ### steeple/packv.One: function 34 -/
def packv_One.f (k : Nat) (a0 : Int) : Option (List S38) := (tower_One.f k).bind fun r0 => (packv_Left.f k a0 r0).bind fun r1 => some r1
def packv_One.sig (k : Nat) : Sig E.toTys := ⟨[.int .i64], [(true, .slice (.st 1))], none, fun x => f k x.1⟩
noncomputable def packv_One.body : Code := Try.f34.body.getD .skip
def packv_One.calls (k : Nat) : List (Nat × Sig E.toTys) := [(98, tower_One.sig k), (91, packv_Left.sig k)]
def packv_One.cuts : List (Cut E (RT E.toTys [(true, .slice (.st 1))])) := []
theorem packv_One.ok (k : Nat) : Okf (XR E) Try.prog 34 (packv_One.sig k) := ⟨fn_ok (C := fun k => tab.ctx fun f => lk f (packv_One.calls k)) (fun k => tie _) k (fun j hj => calls_ok (kc (tower_One.ok j) (kc (packv_Left.ok j) (kn)))) 400 Try.func34 (body := packv_One.body) (res := [.tmp 2]) rfl (by kernel_rfl) packv_One.cuts (kn) (fun x => by kernel_rfl), _, Try.func34, by kernel_rfl, by kernel_rfl⟩
/-! ### math/bits.Len64: function 168 -/
mutual
def math_bits_Len64.j7 : Nat → Int → Int → Option Int
  | 0, _, _ => none
  | k + 1, x0, x1 => if x0 ≥ 256 then math_bits_Len64.j10 k (shr .u64 x0 8) (wrap64 (x1 + 8)) else math_bits_Len64.j10 k x0 x1
def math_bits_Len64.j10 : Nat → Int → Int → Option Int
  | 0, _, _ => none
  | k + 1, x0, x1 => if 0 ≤ IntKind.u8.wrap x0 then (if IntKind.u8.wrap x0 < (ByteArray.size by256_793 : Int) then some (wrap64 (x1 + (wrap64 (bt by256_793 (IntKind.u8.wrap x0))))) else none) else none
end
def math_bits_Len64.f (k : Nat) (a0 : Int) : Option Int := if a0 ≥ 4294967296 then (if shr .u64 a0 32 ≥ 65536 then math_bits_Len64.j7 k (shr .u64 (shr .u64 a0 32) 16) (wrap64 ((32 : Int) + 16)) else math_bits_Len64.j7 k (shr .u64 a0 32) 32) else if a0 ≥ 65536 then math_bits_Len64.j7 k (shr .u64 a0 16) (wrap64 ((0 : Int) + 16)) else math_bits_Len64.j7 k a0 0
def math_bits_Len64.sig (k : Nat) : Sig E.toTys := ⟨[.int .u64], [(false, .int .i64)], none, fun x => f k x.1⟩
noncomputable def math_bits_Len64.body : Code := Try.f168.body.getD .skip
def math_bits_Len64.calls (k : Nat) : List (Nat × Sig E.toTys) := []
def math_bits_Len64.cuts : List (Cut E (RT E.toTys [(false, .int .i64)])) := [⟨false, 7, ⟨cat [.one (.val (.int .u64))] (cat (ds 1) (cat [.one (.val (.int .i64))] (ds 22))), [], false⟩, fun k x => math_bits_Len64.j7 k x.1.1 x.1.2.1⟩,
  ⟨false, 10, ⟨cat [.one (.val (.int .u64))] (cat (ds 1) (cat [.one (.val (.int .i64))] (ds 22))), [], false⟩, fun k x => math_bits_Len64.j10 k x.1.1 x.1.2.1⟩]
theorem math_bits_Len64.ok (k : Nat) : Okf (XR E) Try.prog 168 (math_bits_Len64.sig k) := ⟨fn_ok (C := fun k => tab.ctx fun f => lk f (math_bits_Len64.calls k)) (fun k => tie _) k (fun j hj => calls_ok (kn)) 400 Try.func168 (body := math_bits_Len64.body) (res := [.tmp 2]) rfl (by kernel_rfl) math_bits_Len64.cuts (kc ⟨by kernel_rfl, rfl, fun _ => rfl, fun _ _ => by kernel_rfl⟩ (kc ⟨by kernel_rfl, rfl, fun _ => rfl, fun _ _ => by kernel_rfl⟩ (kn))) (fun x => by kernel_rfl), _, Try.func168, by kernel_rfl, by kernel_rfl⟩
/-! ### steeple/span.lead: function 147 -/
def span_lead.f (k : Nat) (a0 : S38) : Option Int := if a0.f0 = 0 then ((math_bits_Len64.f k a0.f1).bind fun r0 => some (wrap64 (r0 - 1))) else (math_bits_Len64.f k a0.f0).bind fun r1 => some (wrap64 (63 + r1))
def span_lead.sig (k : Nat) : Sig E.toTys := ⟨[.st 1], [(false, .int .i64)], none, fun x => f k x.1⟩
noncomputable def span_lead.body : Code := Try.f147.body.getD .skip
def span_lead.calls (k : Nat) : List (Nat × Sig E.toTys) := [(168, math_bits_Len64.sig k)]
def span_lead.cuts : List (Cut E (RT E.toTys [(false, .int .i64)])) := []
theorem span_lead.ok (k : Nat) : Okf (XR E) Try.prog 147 (span_lead.sig k) := ⟨fn_ok (C := fun k => tab.ctx fun f => lk f (span_lead.calls k)) (fun k => tie _) k (fun j hj => calls_ok (kc (math_bits_Len64.ok j) (kn))) 400 Try.func147 (body := span_lead.body) (res := [.tmp 2]) rfl (by kernel_rfl) span_lead.cuts (kn) (fun x => by kernel_rfl), _, Try.func147, by kernel_rfl, by kernel_rfl⟩
/-! ### steeple/span.within$1: function 165 -/
def span_within_1.f (k : Nat) (a0 : S38) (a1 : Option Int) : Option Bool := (span_lead.f k a0).bind fun r0 => (match a1 with | none => none | some r1 => some (decide (r0 ≥ r1)))
def span_within_1.sig (k : Nat) : Sig E.toTys := ⟨[.st 1, .ptr (.int .i64)], [(false, .bool)], none, fun x => f k x.1 x.2.1⟩
noncomputable def span_within_1.body : Code := Try.f165.body.getD .skip
def span_within_1.calls (k : Nat) : List (Nat × Sig E.toTys) := [(147, span_lead.sig k)]
def span_within_1.cuts : List (Cut E (RT E.toTys [(false, .bool)])) := []
theorem span_within_1.ok (k : Nat) : Okf (XR E) Try.prog 165 (span_within_1.sig k) := ⟨fn_ok (C := fun k => tab.ctx fun f => lk f (span_within_1.calls k)) (fun k => tie _) k (fun j hj => calls_ok (kc (span_lead.ok j) (kn))) 400 Try.func165 (body := span_within_1.body) (res := [.tmp 3]) rfl (by kernel_rfl) span_within_1.cuts (kn) (fun x => by kernel_rfl), _, Try.func165, by kernel_rfl, by kernel_rfl⟩
/-! ### slices.IndexFunc: function 159 -/
def slices_IndexFunc159_c165.l2 : Nat → List S38 → Int → Int → Int → Option Int
  | 0, _, _, _, _ => none
  | k + 1, x0, x1, x2, x3 => if x3 < x2 then (if 0 ≤ x3 then (if x3 < (x0.length : Int) then ((span_within_1.f k (rd38 x0 x3) (some x1)).bind fun r0 => if r0 = true then some x3 else slices_IndexFunc159_c165.l2 k x0 x1 x2 (wrap64 (x3 + 1))) else none) else none) else some (-1)
def slices_IndexFunc159_c165.f (k : Nat) (a0 : List S38) (a1 : Int) : Option Int := slices_IndexFunc159_c165.l2 k a0 a1 (a0.length : Int) 0
def slices_IndexFunc159_c165.sig (k : Nat) : Sig E.toTys := ⟨[.slice (.st 1), .ext 165 (.int .i64)], [(false, .int .i64)], none, fun x => f k x.1 x.2.1⟩
noncomputable def slices_IndexFunc159_c165.body : Code := Try.f159.body.getD .skip
def slices_IndexFunc159_c165.calls (k : Nat) : List (Nat × Sig E.toTys) := [(165, span_within_1.sig k)]
def slices_IndexFunc159_c165.cuts : List (Cut E (RT E.toTys [(false, .int .i64)])) := [⟨true, 2, ⟨cat [.one (.val (.slice (.st 1))), .one (.val (.ext 165 (.int .i64)))] (cat (ds 5) (cat [.one (.val (.int .i64)), .one (.val (.int .i64))] (ds 10))), [], false⟩, fun k x => slices_IndexFunc159_c165.l2 k x.1.1 x.1.2.1 x.1.2.2.1 x.1.2.2.2.1⟩]
theorem slices_IndexFunc159_c165.ok (k : Nat) : Okf (XR E) Try.prog 159 (slices_IndexFunc159_c165.sig k) := ⟨fn_ok (C := fun k => tab.ctx fun f => lk f (slices_IndexFunc159_c165.calls k)) (fun k => tie _) k (fun j hj => calls_ok (kc (span_within_1.ok j) (kn))) 400 Try.func159 (body := slices_IndexFunc159_c165.body) (res := [.tmp 4]) rfl (by kernel_rfl) slices_IndexFunc159_c165.cuts (kc ⟨by kernel_rfl, rfl, fun _ => rfl, fun _ _ => by kernel_rfl⟩ (kn)) (fun x => by kernel_rfl), _, Try.func159, by kernel_rfl, by kernel_rfl⟩
/-! ### slices.ContainsFunc: function 126 -/
def slices_ContainsFunc126_c165.f (k : Nat) (a0 : List S38) (a1 : Int) : Option Bool := (slices_IndexFunc159_c165.f k a0 a1).bind fun r0 => some (decide (r0 ≥ 0))
def slices_ContainsFunc126_c165.sig (k : Nat) : Sig E.toTys := ⟨[.slice (.st 1), .ext 165 (.int .i64)], [(false, .bool)], none, fun x => f k x.1 x.2.1⟩
noncomputable def slices_ContainsFunc126_c165.body : Code := Try.f126.body.getD .skip
def slices_ContainsFunc126_c165.calls (k : Nat) : List (Nat × Sig E.toTys) := [(159, slices_IndexFunc159_c165.sig k)]
def slices_ContainsFunc126_c165.cuts : List (Cut E (RT E.toTys [(false, .bool)])) := []
theorem slices_ContainsFunc126_c165.ok (k : Nat) : Okf (XR E) Try.prog 126 (slices_ContainsFunc126_c165.sig k) := ⟨fn_ok (C := fun k => tab.ctx fun f => lk f (slices_ContainsFunc126_c165.calls k)) (fun k => tie _) k (fun j hj => calls_ok (kc (slices_IndexFunc159_c165.ok j) (kn))) 400 Try.func126 (body := slices_ContainsFunc126_c165.body) (res := [.tmp 4]) rfl (by kernel_rfl) slices_ContainsFunc126_c165.cuts (kn) (fun x => by kernel_rfl), _, Try.func126, by kernel_rfl, by kernel_rfl⟩
/-! ### steeple/span.within: function 135 -/
def span_within.f (k : Nat) (a0 : List S38) (a1 : Int) : Option Bool := (slices_ContainsFunc126_c165.f k a0 a1).bind fun r0 => some (!r0)
def span_within.sig (k : Nat) : Sig E.toTys := ⟨[.slice (.st 1), .int .i64], [(false, .bool)], none, fun x => f k x.1 x.2.1⟩
noncomputable def span_within.body : Code := Try.f135.body.getD .skip
def span_within.calls (k : Nat) : List (Nat × Sig E.toTys) := [(126, slices_ContainsFunc126_c165.sig k)]
def span_within.cuts : List (Cut E (RT E.toTys [(false, .bool)])) := []
theorem span_within.ok (k : Nat) : Okf (XR E) Try.prog 135 (span_within.sig k) := ⟨fn_ok (C := fun k => tab.ctx fun f => lk f (span_within.calls k)) (fun k => tie _) k (fun j hj => calls_ok (kc (slices_ContainsFunc126_c165.ok j) (kn))) 400 Try.func135 (body := span_within.body) (res := [.tmp 4]) rfl (by kernel_rfl) span_within.cuts (kn) (fun x => by kernel_rfl), _, Try.func135, by kernel_rfl, by kernel_rfl⟩
/-! ### steeple/span.has: function 136 -/
def span_has.f (k : Nat) (a0 : S38) (a1 : Int) : Option Bool := (tower_Bit.f k a1).bind fun r0 => some (!decide (bits .or .u64 (bits .and .u64 a0.f1 r0.f1) (bits .and .u64 a0.f0 r0.f0) = 0))
def span_has.sig (k : Nat) : Sig E.toTys := ⟨[.st 1, .int .i64], [(false, .bool)], none, fun x => f k x.1 x.2.1⟩
noncomputable def span_has.body : Code := Try.f136.body.getD .skip
def span_has.calls (k : Nat) : List (Nat × Sig E.toTys) := [(96, tower_Bit.sig k)]
def span_has.cuts : List (Cut E (RT E.toTys [(false, .bool)])) := []
theorem span_has.ok (k : Nat) : Okf (XR E) Try.prog 136 (span_has.sig k) := ⟨fn_ok (C := fun k => tab.ctx fun f => lk f (span_has.calls k)) (fun k => tie _) k (fun j hj => calls_ok (kc (tower_Bit.ok j) (kn))) 400 Try.func136 (body := span_has.body) (res := [.tmp 4]) rfl (by kernel_rfl) span_has.cuts (kn) (fun x => by kernel_rfl), _, Try.func136, by kernel_rfl, by kernel_rfl⟩
/-! ### steeple/span.Turn: function 99 -/
mutual
def span_Turn.l7 : Nat → Int → List S38 → Int → Int → List S38 → Option ((List S38) × Int)
  | 0, _, _, _, _, _ => none
  | k + 1, x0, x1, x2, x3, x4 => if x3 < x2 then (if 0 ≤ x3 then (if x3 < (x1.length : Int) then span_Turn.l10 k x0 x3 x1 x2 x3 x0 0 x4 (rd38 x1 x3).f0 (rd38 x1 x3).f1 else none) else none) else some (x4, 0)
def span_Turn.l10 : Nat → Int → Int → List S38 → Int → Int → Int → Int → List S38 → Int → Int → Option ((List S38) × Int)
  | 0, _, _, _, _, _, _, _, _, _, _ => none
  | k + 1, x0, x1, x2, x3, x4, x5, x6, x7, x8, x9 => if x6 < x5 then ((span_has.f k (⟨x8, x9⟩ : S38) x6).bind fun r1 => if r1 = true then (if 0 ≤ x6 then (if x6 < (x7.length : Int) then ((tower_Bit.f k x1).bind fun r2 => (tower_Add.f k (rd38 x7 x6) r2).bind fun r3 => if 0 ≤ x6 then (if x6 < (x7.length : Int) then span_Turn.l10 k x0 x1 x2 x3 x4 x5 (wrap64 (x6 + 1)) (x7.set (Int.toNat x6) r3) x8 x9 else none) else none) else none) else none) else span_Turn.l10 k x0 x1 x2 x3 x4 x5 (wrap64 (x6 + 1)) x7 x8 x9) else span_Turn.l7 k x0 x2 x3 (wrap64 (x4 + 1)) x7
end
def span_Turn.f (k : Nat) (a0 : List S38) (a1 : Int) : Option ((List S38) × Int) := if (a0.length : Int) > 128 then some ([], 1) else if a1 < 0 then some ([], 1) else if a1 > 128 then some ([], 1) else (span_within.f k a0 a1).bind fun r0 => if (!r0) = true then some ([], 6) else if 0 ≤ a1 then (if a1 ≤ 140737488355328 / ((16 : Nat) : Int) then span_Turn.l7 k a1 a0 (a0.length : Int) 0 (List.replicate (Int.toNat a1) z38) else none) else none
def span_Turn.sig (k : Nat) : Sig E.toTys := ⟨[.slice (.st 1), .int .i64], [(true, .slice (.st 1)), (false, .int .i64)], none, fun x => f k x.1 x.2.1⟩
noncomputable def span_Turn.body : Code := Try.f99.body.getD .skip
def span_Turn.calls (k : Nat) : List (Nat × Sig E.toTys) := [(135, span_within.sig k), (136, span_has.sig k), (96, tower_Bit.sig k), (80, tower_Add.sig k)]
def span_Turn.cuts : List (Cut E (RT E.toTys [(true, .slice (.st 1)), (false, .int .i64)])) := [⟨true, 7, ⟨cat (ds 1) (cat [.one (.val (.int .i64))] (cat (ds 4) (cat [.one (.ref 0)] (cat (ds 22) (cat [.one (.val (.slice (.st 1))), .one (.val (.int .i64)), .one (.val (.int .i64))] (ds 24)))))), [.arr (.st 1)], false⟩, fun k x => span_Turn.l7 k x.1.1 x.1.2.1 x.1.2.2.1 x.1.2.2.2.1 x.2.1⟩,
  ⟨true, 10, ⟨cat (ds 1) (cat [.one (.val (.int .i64))] (cat (ds 4) (cat [.one (.ref 0), .one (.val (.int .i64)), .one (.ptr 1 0)] (cat (ds 20) (cat [.one (.val (.slice (.st 1))), .one (.val (.int .i64)), .one (.val (.int .i64))] (cat (ds 4) (cat [.one (.val (.int .i64)), .one (.val (.int .i64))] (ds 18)))))))), [.arr (.st 1), .var [.val (.int .u64), .val (.int .u64)]], false⟩, fun k x => span_Turn.l10 k x.1.1 x.1.2.1 x.1.2.2.1 x.1.2.2.2.1 x.1.2.2.2.2.1 x.1.2.2.2.2.2.1 x.1.2.2.2.2.2.2.1 x.2.1 x.2.2.1.1 x.2.2.1.2.1⟩]
theorem span_Turn.ok (k : Nat) : Okf (XR E) Try.prog 99 (span_Turn.sig k) := ⟨fn_ok (C := fun k => tab.ctx fun f => lk f (span_Turn.calls k)) (fun k => tie _) k (fun j hj => calls_ok (kc (span_within.ok j) (kc (span_has.ok j) (kc (tower_Bit.ok j) (kc (tower_Add.ok j) (kn)))))) 400 Try.func99 (body := span_Turn.body) (res := [.tmp 4, .tmp 5]) rfl (by kernel_rfl) span_Turn.cuts (kc ⟨by kernel_rfl, rfl, fun _ => rfl, fun _ _ => by kernel_rfl⟩ (kc ⟨by kernel_rfl, rfl, fun _ => rfl, fun _ _ => by kernel_rfl⟩ (kn))) (fun x => by kernel_rfl), _, Try.func99, by kernel_rfl, by kernel_rfl⟩
/-! ### steeple/packv.Turned: function 35 -/
def packv_Turned.f (k : Nat) (a0 : Int) (a1 : List S38) : Option ((List S38) × Int) := (packv_ask.f k a0 [a1] []).bind fun r0 => if r0 = 0 then ((packv_size.f k a0).bind fun r1 => (span_Turn.f k a1 r1).bind fun r2 => some (r2.1, r2.2)) else some ([], r0)
def packv_Turned.sig (k : Nat) : Sig E.toTys := ⟨[.int .i64, .slice (.st 1)], [(true, .slice (.st 1)), (false, .int .i64)], none, fun x => f k x.1 x.2.1⟩
noncomputable def packv_Turned.body : Code := Try.f35.body.getD .skip
def packv_Turned.calls (k : Nat) : List (Nat × Sig E.toTys) := [(93, packv_ask.sig k), (94, packv_size.sig k), (99, span_Turn.sig k)]
def packv_Turned.cuts : List (Cut E (RT E.toTys [(true, .slice (.st 1)), (false, .int .i64)])) := []
theorem packv_Turned.ok (k : Nat) : Okf (XR E) Try.prog 35 (packv_Turned.sig k) := ⟨fn_ok (C := fun k => tab.ctx fun f => lk f (packv_Turned.calls k)) (fun k => tie _) k (fun j hj => calls_ok (kc (packv_ask.ok j) (kc (packv_size.ok j) (kc (span_Turn.ok j) (kn))))) 400 Try.func35 (body := packv_Turned.body) (res := [.tmp 4, .tmp 5]) rfl (by kernel_rfl) packv_Turned.cuts (kn) (fun x => by kernel_rfl), _, Try.func35, by kernel_rfl, by kernel_rfl⟩
/-! ### steeple/steeplelaw19.alike: function 36 -/
def steeplelaw19_alike.f (k : Nat) (a0 : List S38) (a1 : List S38) : Option Bool := (steeplelaw01_Ref.f k a1).bind fun r0 => (steeplelaw01_Same.f k a0 r0).bind fun r1 => some r1
def steeplelaw19_alike.sig (k : Nat) : Sig E.toTys := ⟨[.slice (.st 1), .slice (.st 1)], [(false, .bool)], none, fun x => f k x.1 x.2.1⟩
noncomputable def steeplelaw19_alike.body : Code := Try.f36.body.getD .skip
def steeplelaw19_alike.calls (k : Nat) : List (Nat × Sig E.toTys) := [(25, steeplelaw01_Ref.sig k), (29, steeplelaw01_Same.sig k)]
def steeplelaw19_alike.cuts : List (Cut E (RT E.toTys [(false, .bool)])) := []
theorem steeplelaw19_alike.ok (k : Nat) : Okf (XR E) Try.prog 36 (steeplelaw19_alike.sig k) := ⟨fn_ok (C := fun k => tab.ctx fun f => lk f (steeplelaw19_alike.calls k)) (fun k => tie _) k (fun j hj => calls_ok (kc (steeplelaw01_Ref.ok j) (kc (steeplelaw01_Same.ok j) (kn)))) 400 Try.func36 (body := steeplelaw19_alike.body) (res := [.tmp 4]) rfl (by kernel_rfl) steeplelaw19_alike.cuts (kn) (fun x => by kernel_rfl), _, Try.func36, by kernel_rfl, by kernel_rfl⟩
/-! ### steeple/steeplelaw19.PackvRing: function 5 -/
mutual
def steeplelaw19_PackvRing.j24 : Nat → Option Bool
  | 0 => none
  | k + 1 => some false
def steeplelaw19_PackvRing.j17 : Nat → Option Bool
  | 0 => none
  | k + 1 => some false
def steeplelaw19_PackvRing.j8 : Nat → Option Bool
  | 0 => none
  | k + 1 => (steeplelaw19_awake.f k).bind fun r26 => some r26
end
def steeplelaw19_PackvRing.f (k : Nat) (a0 : Int) (a1 : List (List S38)) : Option Bool := if a0 > 3 then ((steeplelaw19_awake.f k).bind fun r0 => some r0) else if 0 < ((3 : Nat) : Int) then (if 1 < ((3 : Nat) : Int) then (if 2 < ((3 : Nat) : Int) then ((steeplelaw19_few.f k a0 [rdL a1 (0 : Int), rdL a1 (1 : Int), rdL a1 (2 : Int)]).bind fun r1 => if (!r1) = true then ((steeplelaw19_awake.f k).bind fun r2 => some r2) else if 0 < ((3 : Nat) : Int) then (if 1 < ((3 : Nat) : Int) then (if 2 < ((3 : Nat) : Int) then ((packv_Times.f k a0 (rdL a1 (0 : Int)) (rdL a1 (1 : Int))).bind fun r3 => (packv_Times.f k a0 (rdL a1 (1 : Int)) (rdL a1 (2 : Int))).bind fun r4 => (packv_Times.f k a0 (rdL a1 (0 : Int)) (rdL a1 (2 : Int))).bind fun r5 => if r3.2 = 0 then (if r4.2 = 0 then (if r5.2 = 0 then ((packv_Times.f k a0 (rdL a1 (1 : Int)) (rdL a1 (0 : Int))).bind fun r6 => (packv_Times.f k a0 r3.1 (rdL a1 (2 : Int))).bind fun r7 => (packv_Times.f k a0 (rdL a1 (0 : Int)) r4.1).bind fun r8 => (packv_Add.f k a0 (rdL a1 (1 : Int)) (rdL a1 (2 : Int))).bind fun r9 => (packv_Times.f k a0 (rdL a1 (0 : Int)) r9.1).bind fun r10 => (packv_Add.f k a0 r3.1 r5.1).bind fun r11 => (packv_One.f k a0).bind fun r12 => (packv_Times.f k a0 (rdL a1 (0 : Int)) r12).bind fun r13 => if r6.2 = 0 then (if r7.2 = 0 then (if r8.2 = 0 then (if r9.2 = 0 then (if r10.2 = 0 then (if r11.2 = 0 then (if r13.2 = 0 then ((packv_Turned.f k a0 (rdL a1 (0 : Int))).bind fun r14 => (packv_Turned.f k a0 (rdL a1 (1 : Int))).bind fun r15 => (packv_Turned.f k a0 r14.1).bind fun r16 => (packv_Turned.f k a0 r3.1).bind fun r17 => (packv_Times.f k a0 r14.1 r15.1).bind fun r18 => if r14.2 = 0 then (if r15.2 = 0 then (if r16.2 = 0 then (if r17.2 = 0 then (if r18.2 = 0 then ((steeplelaw19_awake.f k).bind fun r19 => if r19 = true then ((steeplelaw19_alike.f k r3.1 r6.1).bind fun r20 => if r20 = true then ((steeplelaw19_alike.f k r7.1 r8.1).bind fun r21 => if r21 = true then ((steeplelaw19_alike.f k r10.1 r11.1).bind fun r22 => if r22 = true then ((steeplelaw19_alike.f k r13.1 (rdL a1 (0 : Int))).bind fun r23 => if r23 = true then ((steeplelaw19_alike.f k r16.1 (rdL a1 (0 : Int))).bind fun r24 => if r24 = true then ((steeplelaw19_alike.f k r17.1 r18.1).bind fun r25 => some r25) else some false) else some false) else some false) else some false) else some false) else some false) else steeplelaw19_PackvRing.j24 k) else steeplelaw19_PackvRing.j24 k) else steeplelaw19_PackvRing.j24 k) else steeplelaw19_PackvRing.j24 k) else steeplelaw19_PackvRing.j24 k) else steeplelaw19_PackvRing.j17 k) else steeplelaw19_PackvRing.j17 k) else steeplelaw19_PackvRing.j17 k) else steeplelaw19_PackvRing.j17 k) else steeplelaw19_PackvRing.j17 k) else steeplelaw19_PackvRing.j17 k) else steeplelaw19_PackvRing.j17 k) else steeplelaw19_PackvRing.j8 k) else steeplelaw19_PackvRing.j8 k) else steeplelaw19_PackvRing.j8 k) else none) else none) else none) else none) else none) else none
def steeplelaw19_PackvRing.sig (k : Nat) : Sig E.toTys := ⟨[.int .i64, .arr 3 (.slice (.st 1))], [(false, .bool)], none, fun x => f k x.1 x.2.1⟩
noncomputable def steeplelaw19_PackvRing.body : Code := Try.f5.body.getD .skip
def steeplelaw19_PackvRing.calls (k : Nat) : List (Nat × Sig E.toTys) := [(31, steeplelaw19_awake.sig k), (30, steeplelaw19_few.sig k), (32, packv_Times.sig k), (33, packv_Add.sig k), (34, packv_One.sig k), (35, packv_Turned.sig k), (36, steeplelaw19_alike.sig k)]
def steeplelaw19_PackvRing.cuts : List (Cut E (RT E.toTys [(false, .bool)])) := [⟨false, 24, ⟨ds 239, [], false⟩, fun k x => steeplelaw19_PackvRing.j24 k⟩,
  ⟨false, 17, ⟨ds 239, [], false⟩, fun k x => steeplelaw19_PackvRing.j17 k⟩,
  ⟨false, 8, ⟨ds 239, [], false⟩, fun k x => steeplelaw19_PackvRing.j8 k⟩]
theorem steeplelaw19_PackvRing.ok (k : Nat) : Okf (XR E) Try.prog 5 (steeplelaw19_PackvRing.sig k) := ⟨fn_ok (C := fun k => tab.ctx fun f => lk f (steeplelaw19_PackvRing.calls k)) (fun k => tie _) k (fun j hj => calls_ok (kc (steeplelaw19_awake.ok j) (kc (steeplelaw19_few.ok j) (kc (packv_Times.ok j) (kc (packv_Add.ok j) (kc (packv_One.ok j) (kc (packv_Turned.ok j) (kc (steeplelaw19_alike.ok j) (kn))))))))) 400 Try.func5 (body := steeplelaw19_PackvRing.body) (res := [.tmp 4]) rfl (by kernel_rfl) steeplelaw19_PackvRing.cuts (kc ⟨by kernel_rfl, rfl, fun _ => rfl, fun _ _ => by kernel_rfl⟩ (kc ⟨by kernel_rfl, rfl, fun _ => rfl, fun _ _ => by kernel_rfl⟩ (kc ⟨by kernel_rfl, rfl, fun _ => rfl, fun _ _ => by kernel_rfl⟩ (kn)))) (fun x => by kernel_rfl), _, Try.func5, by kernel_rfl, by kernel_rfl⟩
/-! ### steeple/steeplelaw16.ExprOdd: function 6 -/
def steeplelaw16_ExprOdd.f (k : Nat) (a0 : Int) (a1 : Int) : Option Bool := none
def steeplelaw16_ExprOdd.sig (k : Nat) : Sig E.toTys := ⟨[.int .i64, .int .i64], [(false, .bool)], none, fun x => f k x.1 x.2.1⟩
noncomputable def steeplelaw16_ExprOdd.body : Code := Try.f6.body.getD .skip
def steeplelaw16_ExprOdd.calls (k : Nat) : List (Nat × Sig E.toTys) := []
def steeplelaw16_ExprOdd.cuts : List (Cut E (RT E.toTys [(false, .bool)])) := []
theorem steeplelaw16_ExprOdd.ok (k : Nat) : Okf (XR E) Try.prog 6 (steeplelaw16_ExprOdd.sig k) := ⟨fn_ok (C := fun k => tab.ctx fun f => lk f (steeplelaw16_ExprOdd.calls k)) (fun k => tie _) k (fun j hj => calls_ok (kn)) 400 Try.func6 (body := steeplelaw16_ExprOdd.body) (res := [.tmp 4]) rfl (by kernel_rfl) steeplelaw16_ExprOdd.cuts (kn) (fun x => by kernel_rfl), _, Try.func6, by kernel_rfl, by kernel_rfl⟩
/-! ### steeple/steeplelaw16.example: function 101 -/
def steeplelaw16_example.f (k : Nat) : Option (List S73) := some [(⟨2, 0, 0, (⟨0, 0⟩ : S38)⟩ : S73), (⟨2, 1, 0, (⟨0, 0⟩ : S38)⟩ : S73), (⟨4, 0, 1, (⟨0, 0⟩ : S38)⟩ : S73), (⟨1, 0, 0, (⟨0, 1⟩ : S38)⟩ : S73), (⟨3, 2, 3, (⟨0, 0⟩ : S38)⟩ : S73)]
def steeplelaw16_example.sig (k : Nat) : Sig E.toTys := ⟨[], [(true, .slice (.st 6))], none, fun x => f k⟩
noncomputable def steeplelaw16_example.body : Code := Try.f101.body.getD .skip
def steeplelaw16_example.calls (k : Nat) : List (Nat × Sig E.toTys) := []
def steeplelaw16_example.cuts : List (Cut E (RT E.toTys [(true, .slice (.st 6))])) := []
theorem steeplelaw16_example.ok (k : Nat) : Okf (XR E) Try.prog 101 (steeplelaw16_example.sig k) := ⟨fn_ok (C := fun k => tab.ctx fun f => lk f (steeplelaw16_example.calls k)) (fun k => tie _) k (fun j hj => calls_ok (kn)) 400 Try.func101 (body := steeplelaw16_example.body) (res := [.tmp 0]) rfl (by kernel_rfl) steeplelaw16_example.cuts (kn) (fun x => by kernel_rfl), _, Try.func101, by kernel_rfl, by kernel_rfl⟩
/-! ### steeple/expr.ahead: function 166 -/
def expr_ahead.f (k : Nat) (a0 : S73) (a1 : Int) : Option Bool := if a0.f1 ≥ 0 then (if a0.f1 < a1 then (if a0.f2 ≥ 0 then some (decide (a0.f2 < a1)) else some false) else some false) else some false
def expr_ahead.sig (k : Nat) : Sig E.toTys := ⟨[.st 6, .int .i64], [(false, .bool)], none, fun x => f k x.1 x.2.1⟩
noncomputable def expr_ahead.body : Code := Try.f166.body.getD .skip
def expr_ahead.calls (k : Nat) : List (Nat × Sig E.toTys) := []
def expr_ahead.cuts : List (Cut E (RT E.toTys [(false, .bool)])) := []
theorem expr_ahead.ok (k : Nat) : Okf (XR E) Try.prog 166 (expr_ahead.sig k) := ⟨fn_ok (C := fun k => tab.ctx fun f => lk f (expr_ahead.calls k)) (fun k => tie _) k (fun j hj => calls_ok (kn)) 400 Try.func166 (body := expr_ahead.body) (res := [.tmp 4]) rfl (by kernel_rfl) expr_ahead.cuts (kn) (fun x => by kernel_rfl), _, Try.func166, by kernel_rfl, by kernel_rfl⟩
/-! ### steeple/expr.step: function 140 -/
mutual
def expr_step.j6 : Nat → Int → List Int → Int → Int → Int → Int → Int → Int → Int → Option (Int × Int)
  | 0, _, _, _, _, _, _, _, _, _ => none
  | k + 1, x0, x1, x2, x3, x4, x5, x6, x7, x8 => if x2 = 2 then (if x4 = 0 then (if x5 = x7 ∧ x6 = x8 then (if x3 < 0 then expr_step.j8 k else if x3 ≥ x0 then expr_step.j8 k else some (1, 0)) else expr_step.j10 k x1 x2 x3 x4 x5 x6 x7 x8) else expr_step.j10 k x1 x2 x3 x4 x5 x6 x7 x8) else expr_step.j10 k x1 x2 x3 x4 x5 x6 x7 x8
def expr_step.j8 : Nat → Option (Int × Int)
  | 0 => none
  | k + 1 => some (0, 4)
def expr_step.j10 : Nat → List Int → Int → Int → Int → Int → Int → Int → Int → Option (Int × Int)
  | 0, _, _, _, _, _, _, _, _ => none
  | k + 1, x0, x1, x2, x3, x4, x5, x6, x7 => if x1 = 3 then (if x4 = x6 ∧ x5 = x7 then ((expr_ahead.f k (⟨x1, x2, x3, (⟨x4, x5⟩ : S38)⟩ : S73) (x0.length : Int)).bind fun r1 => if r1 = true then (if 0 ≤ x2 then (if x2 < (x0.length : Int) then (if 0 ≤ x3 then (if x3 < (x0.length : Int) then some (if rdI x0 x3 > rdI x0 x2 then (rdI x0 x3) else (rdI x0 x2), 0) else none) else none) else none) else none) else expr_step.j12 k x0 x1 x2 x3 x4 x5 x6 x7) else expr_step.j12 k x0 x1 x2 x3 x4 x5 x6 x7) else expr_step.j12 k x0 x1 x2 x3 x4 x5 x6 x7
def expr_step.j12 : Nat → List Int → Int → Int → Int → Int → Int → Int → Int → Option (Int × Int)
  | 0, _, _, _, _, _, _, _, _ => none
  | k + 1, x0, x1, x2, x3, x4, x5, x6, x7 => if x1 = 4 then (if x4 = x6 ∧ x5 = x7 then ((expr_ahead.f k (⟨x1, x2, x3, (⟨x4, x5⟩ : S38)⟩ : S73) (x0.length : Int)).bind fun r2 => if r2 = true then (if 0 ≤ x2 then (if x2 < (x0.length : Int) then (if 0 ≤ x3 then (if x3 < (x0.length : Int) then some (wrap64 ((rdI x0 x2) + (rdI x0 x3)), 0) else none) else none) else none) else none) else expr_step.j14 k) else expr_step.j14 k) else expr_step.j14 k
def expr_step.j14 : Nat → Option (Int × Int)
  | 0 => none
  | k + 1 => some (0, 3)
end
def expr_step.f (k : Nat) (a0 : Int) (a1 : Int) (a2 : S73) (a3 : List Int) : Option (Int × Int) := if a2.f0 = 1 then (if a2.f1 = 0 then (if a2.f2 = 0 then ((octet_Of.f k a0 a2.f3).bind fun r0 => if (!r0) = true then some (0, 5) else some (0, 0)) else expr_step.j6 k a1 a3 a2.f0 a2.f1 a2.f2 a2.f3.f0 a2.f3.f1 0 0) else expr_step.j6 k a1 a3 a2.f0 a2.f1 a2.f2 a2.f3.f0 a2.f3.f1 0 0) else expr_step.j6 k a1 a3 a2.f0 a2.f1 a2.f2 a2.f3.f0 a2.f3.f1 0 0
def expr_step.sig (k : Nat) : Sig E.toTys := ⟨[.int .i64, .int .i64, .st 6, .slice (.int .i64)], [(false, .int .i64), (false, .int .i64)], none, fun x => f k x.1 x.2.1 x.2.2.1 x.2.2.2.1⟩
noncomputable def expr_step.body : Code := Try.f140.body.getD .skip
def expr_step.calls (k : Nat) : List (Nat × Sig E.toTys) := [(82, octet_Of.sig k), (166, expr_ahead.sig k)]
def expr_step.cuts : List (Cut E (RT E.toTys [(false, .int .i64), (false, .int .i64)])) := [⟨false, 6, ⟨cat (ds 1) (cat [.one (.val (.int .i64))] (cat (ds 1) (cat [.one (.val (.slice (.int .i64)))] (cat (ds 2) (cat [.one (.ptr 0 0)] (cat (ds 3) (cat [.one (.ptr 1 0)] (ds 98)))))))), [.var [.val (.int .i64), .val (.int .i64), .val (.int .i64), .val (.int .u64), .val (.int .u64)], .var [.val (.int .u64), .val (.int .u64)]], false⟩, fun k x => expr_step.j6 k x.1.1 x.1.2.1 x.2.1.1 x.2.1.2.1 x.2.1.2.2.1 x.2.1.2.2.2.1 x.2.1.2.2.2.2.1 x.2.2.1.1 x.2.2.1.2.1⟩,
  ⟨false, 8, ⟨ds 109, [], false⟩, fun k x => expr_step.j8 k⟩,
  ⟨false, 10, ⟨cat (ds 3) (cat [.one (.val (.slice (.int .i64)))] (cat (ds 2) (cat [.one (.ptr 0 0)] (cat (ds 3) (cat [.one (.ptr 1 0)] (ds 98)))))), [.var [.val (.int .i64), .val (.int .i64), .val (.int .i64), .val (.int .u64), .val (.int .u64)], .var [.val (.int .u64), .val (.int .u64)]], false⟩, fun k x => expr_step.j10 k x.1.1 x.2.1.1 x.2.1.2.1 x.2.1.2.2.1 x.2.1.2.2.2.1 x.2.1.2.2.2.2.1 x.2.2.1.1 x.2.2.1.2.1⟩,
  ⟨false, 12, ⟨cat (ds 3) (cat [.one (.val (.slice (.int .i64)))] (cat (ds 2) (cat [.one (.ptr 0 0)] (cat (ds 3) (cat [.one (.ptr 1 0)] (ds 98)))))), [.var [.val (.int .i64), .val (.int .i64), .val (.int .i64), .val (.int .u64), .val (.int .u64)], .var [.val (.int .u64), .val (.int .u64)]], false⟩, fun k x => expr_step.j12 k x.1.1 x.2.1.1 x.2.1.2.1 x.2.1.2.2.1 x.2.1.2.2.2.1 x.2.1.2.2.2.2.1 x.2.2.1.1 x.2.2.1.2.1⟩,
  ⟨false, 14, ⟨ds 109, [], false⟩, fun k x => expr_step.j14 k⟩]
theorem expr_step.ok (k : Nat) : Okf (XR E) Try.prog 140 (expr_step.sig k) := ⟨fn_ok (C := fun k => tab.ctx fun f => lk f (expr_step.calls k)) (fun k => tie _) k (fun j hj => calls_ok (kc (octet_Of.ok j) (kc (expr_ahead.ok j) (kn)))) 400 Try.func140 (body := expr_step.body) (res := [.tmp 8, .tmp 9]) rfl (by kernel_rfl) expr_step.cuts (kc ⟨by kernel_rfl, rfl, fun _ => rfl, fun _ _ => by kernel_rfl⟩ (kc ⟨by kernel_rfl, rfl, fun _ => rfl, fun _ _ => by kernel_rfl⟩ (kc ⟨by kernel_rfl, rfl, fun _ => rfl, fun _ _ => by kernel_rfl⟩ (kc ⟨by kernel_rfl, rfl, fun _ => rfl, fun _ _ => by kernel_rfl⟩ (kc ⟨by kernel_rfl, rfl, fun _ => rfl, fun _ _ => by kernel_rfl⟩ (kn)))))) (fun x => by kernel_rfl), _, Try.func140, by kernel_rfl, by kernel_rfl⟩
/-! ### steeple/expr.degrees: function 102 -/
mutual
def expr_degrees.l9 : Nat → Int → Int → List S73 → Int → Int → List Int → Option ((List Int) × Int)
  | 0, _, _, _, _, _, _ => none
  | k + 1, x0, x1, x2, x3, x4, x5 => if x4 < x3 then (if 0 ≤ x4 then (if x4 < (x2.length : Int) then ((expr_step.f k x0 x1 (rd73 x2 x4) x5).bind fun r1 => if r1.2 = 0 then (if r1.1 > 8 then expr_degrees.j14 k x0 x1 r1.1 7 x2 x3 x4 x5 else expr_degrees.j14 k x0 x1 r1.1 r1.2 x2 x3 x4 x5) else expr_degrees.j14 k x0 x1 r1.1 r1.2 x2 x3 x4 x5) else none) else none) else some (x5, 0)
def expr_degrees.j14 : Nat → Int → Int → Int → Int → List S73 → Int → Int → List Int → Option ((List Int) × Int)
  | 0, _, _, _, _, _, _, _, _ => none
  | k + 1, x0, x1, x2, x3, x4, x5, x6, x7 => if x3 = 0 then (if x7.length + [x2].length ≤ 140737488355328 / 8 then expr_degrees.l9 k x0 x1 x4 x5 (wrap64 (x6 + 1)) (x7 ++ [x2]) else none) else some ([], x3)
end
def expr_degrees.f (k : Nat) (a0 : Int) (a1 : Int) (a2 : List S73) : Option ((List Int) × Int) := (octet_Wide.f k a0).bind fun r0 => if r0 = 0 then some ([], 1) else if a1 < 0 then some ([], 1) else if (a2.length : Int) = 0 then some ([], 3) else if (a2.length : Int) > 200 then some ([], 2) else expr_degrees.l9 k a0 a1 a2 (a2.length : Int) 0 []
def expr_degrees.sig (k : Nat) : Sig E.toTys := ⟨[.int .i64, .int .i64, .slice (.st 6)], [(true, .slice (.int .i64)), (false, .int .i64)], none, fun x => f k x.1 x.2.1 x.2.2.1⟩
noncomputable def expr_degrees.body : Code := Try.f102.body.getD .skip
def expr_degrees.calls (k : Nat) : List (Nat × Sig E.toTys) := [(77, octet_Wide.sig k), (140, expr_step.sig k)]
def expr_degrees.cuts : List (Cut E (RT E.toTys [(true, .slice (.int .i64)), (false, .int .i64)])) := [⟨true, 9, ⟨cat [.one (.val (.int .i64)), .one (.val (.int .i64))] (cat (ds 6) (cat [.one (.ref 0)] (cat (ds 20) (cat [.one (.val (.slice (.st 6))), .one (.val (.int .i64)), .one (.val (.int .i64))] (ds 26))))), [.arr (.int .i64)], false⟩, fun k x => expr_degrees.l9 k x.1.1 x.1.2.1 x.1.2.2.1 x.1.2.2.2.1 x.1.2.2.2.2.1 x.2.1⟩,
  ⟨false, 14, ⟨cat [.one (.val (.int .i64)), .one (.val (.int .i64))] (cat (ds 6) (cat [.one (.ref 0)] (cat (ds 2) (cat [.one (.val (.int .i64)), .one (.val (.int .i64))] (cat (ds 16) (cat [.one (.val (.slice (.st 6))), .one (.val (.int .i64)), .one (.val (.int .i64))] (ds 26))))))), [.arr (.int .i64)], false⟩, fun k x => expr_degrees.j14 k x.1.1 x.1.2.1 x.1.2.2.1 x.1.2.2.2.1 x.1.2.2.2.2.1 x.1.2.2.2.2.2.1 x.1.2.2.2.2.2.2.1 x.2.1⟩]
theorem expr_degrees.ok (k : Nat) : Okf (XR E) Try.prog 102 (expr_degrees.sig k) := ⟨fn_ok (C := fun k => tab.ctx fun f => lk f (expr_degrees.calls k)) (fun k => tie _) k (fun j hj => calls_ok (kc (octet_Wide.ok j) (kc (expr_step.ok j) (kn)))) 400 Try.func102 (body := expr_degrees.body) (res := [.tmp 6, .tmp 7]) rfl (by kernel_rfl) expr_degrees.cuts (kc ⟨by kernel_rfl, rfl, fun _ => rfl, fun _ _ => by kernel_rfl⟩ (kc ⟨by kernel_rfl, rfl, fun _ => rfl, fun _ _ => by kernel_rfl⟩ (kn))) (fun x => by kernel_rfl), _, Try.func102, by kernel_rfl, by kernel_rfl⟩
/-! ### steeple/expr.Check: function 103 -/
def expr_Check.f (k : Nat) (a0 : Int) (a1 : Int) (a2 : List S73) : Option Int := (expr_degrees.f k a0 a1 a2).bind fun r0 => some r0.2
def expr_Check.sig (k : Nat) : Sig E.toTys := ⟨[.int .i64, .int .i64, .slice (.st 6)], [(false, .int .i64)], none, fun x => f k x.1 x.2.1 x.2.2.1⟩
noncomputable def expr_Check.body : Code := Try.f103.body.getD .skip
def expr_Check.calls (k : Nat) : List (Nat × Sig E.toTys) := [(102, expr_degrees.sig k)]
def expr_Check.cuts : List (Cut E (RT E.toTys [(false, .int .i64)])) := []
theorem expr_Check.ok (k : Nat) : Okf (XR E) Try.prog 103 (expr_Check.sig k) := ⟨fn_ok (C := fun k => tab.ctx fun f => lk f (expr_Check.calls k)) (fun k => tie _) k (fun j hj => calls_ok (kc (expr_degrees.ok j) (kn))) 400 Try.func103 (body := expr_Check.body) (res := [.tmp 6]) rfl (by kernel_rfl) expr_Check.cuts (kn) (fun x => by kernel_rfl), _, Try.func103, by kernel_rfl, by kernel_rfl⟩
/-! ### steeple/expr.Eval: function 47 -/
mutual
def expr_Eval.l5 : Nat → Int → List S73 → List S38 → List S38 → Int → Int → Int → Int → Option (S38 × Int)
  | 0, _, _, _, _, _, _, _, _ => none
  | k + 1, x0, x1, x2, x3, x4, x5, x6, x7 => if x5 < x4 then (if 0 ≤ x5 then (if x5 < (x3.length : Int) then ((octet_Of.f k x0 (rd38 x3 x5)).bind fun r1 => if (!r1) = true then some ((⟨0, 0⟩ : S38), 5) else expr_Eval.l5 k x0 x1 x2 x3 x4 (wrap64 (x5 + 1)) x6 x7) else none) else none) else expr_Eval.l12 k x0 x2 x1 (x1.length : Int) 0 x6 x7 []
def expr_Eval.l12 : Nat → Int → List S38 → List S73 → Int → Int → Int → Int → List S38 → Option (S38 × Int)
  | 0, _, _, _, _, _, _, _, _ => none
  | k + 1, x0, x1, x2, x3, x4, x5, x6, x7 => if x4 < x3 then (if 0 ≤ x4 then (if x4 < (x2.length : Int) then (if (rd73 x2 x4).f0 = 1 then expr_Eval.j24 k x0 x1 x2 x3 x4 x5 x6 x7 (rd73 x2 x4).f3.f0 (rd73 x2 x4).f3.f1 else if (rd73 x2 x4).f0 = 2 then (if 0 ≤ (rd73 x2 x4).f1 then (if (rd73 x2 x4).f1 < (x1.length : Int) then expr_Eval.j24 k x0 x1 x2 x3 x4 x5 x6 x7 (rd38 x1 (rd73 x2 x4).f1).f0 (rd38 x1 (rd73 x2 x4).f1).f1 else none) else none) else if (rd73 x2 x4).f0 = 3 then (if 0 ≤ (rd73 x2 x4).f1 then (if (rd73 x2 x4).f1 < (x7.length : Int) then (if 0 ≤ (rd73 x2 x4).f2 then (if (rd73 x2 x4).f2 < (x7.length : Int) then ((tower_Add.f k (rd38 x7 (rd73 x2 x4).f1) (rd38 x7 (rd73 x2 x4).f2)).bind fun r2 => expr_Eval.j24 k x0 x1 x2 x3 x4 x5 x6 x7 r2.f0 r2.f1) else none) else none) else none) else none) else if (rd73 x2 x4).f0 = 4 then (if 0 ≤ (rd73 x2 x4).f1 then (if (rd73 x2 x4).f1 < (x7.length : Int) then (if 0 ≤ (rd73 x2 x4).f2 then (if (rd73 x2 x4).f2 < (x7.length : Int) then ((tower_Mul.f k x0 (rd38 x7 (rd73 x2 x4).f1) (rd38 x7 (rd73 x2 x4).f2)).bind fun r3 => expr_Eval.j24 k x0 x1 x2 x3 x4 x5 x6 x7 r3.f0 r3.f1) else none) else none) else none) else none) else expr_Eval.j24 k x0 x1 x2 x3 x4 x5 x6 x7 0 0) else none) else none) else if 0 ≤ wrap64 ((x7.length : Int) - 1) then (if wrap64 ((x7.length : Int) - 1) < (x7.length : Int) then some (rd38 x7 (wrap64 ((x7.length : Int) - 1)), 0) else none) else none
def expr_Eval.j24 : Nat → Int → List S38 → List S73 → Int → Int → Int → Int → List S38 → Int → Int → Option (S38 × Int)
  | 0, _, _, _, _, _, _, _, _, _, _ => none
  | k + 1, x0, x1, x2, x3, x4, x5, x6, x7, x8, x9 => if x7.length + [(⟨x8, x9⟩ : S38)].length ≤ 140737488355328 / 16 then expr_Eval.l12 k x0 x1 x2 x3 (wrap64 (x4 + 1)) x5 x6 (x7 ++ [(⟨x8, x9⟩ : S38)]) else none
end
def expr_Eval.f (k : Nat) (a0 : Int) (a1 : List S73) (a2 : List S38) : Option (S38 × Int) := (expr_Check.f k a0 (a2.length : Int) a1).bind fun r0 => if r0 = 0 then expr_Eval.l5 k a0 a1 a2 a2 (a2.length : Int) 0 0 0 else some ((⟨0, 0⟩ : S38), r0)
def expr_Eval.sig (k : Nat) : Sig E.toTys := ⟨[.int .i64, .slice (.st 6), .slice (.st 1)], [(false, .st 1), (false, .int .i64)], none, fun x => f k x.1 x.2.1 x.2.2.1⟩
noncomputable def expr_Eval.body : Code := Try.f47.body.getD .skip
def expr_Eval.calls (k : Nat) : List (Nat × Sig E.toTys) := [(103, expr_Check.sig k), (82, octet_Of.sig k), (80, tower_Add.sig k), (83, tower_Mul.sig k)]
def expr_Eval.cuts : List (Cut E (RT E.toTys [(false, .st 1), (false, .int .i64)])) := [⟨true, 5, ⟨cat [.one (.val (.int .i64)), .one (.val (.slice (.st 6))), .one (.val (.slice (.st 1)))] (cat (ds 3) (cat [.one (.ptr 0 0)] (cat (ds 17) (cat [.one (.val (.slice (.st 1))), .one (.val (.int .i64)), .one (.val (.int .i64))] (ds 66))))), [.var [.val (.int .u64), .val (.int .u64)]], false⟩, fun k x => expr_Eval.l5 k x.1.1 x.1.2.1 x.1.2.2.1 x.1.2.2.2.1 x.1.2.2.2.2.1 x.1.2.2.2.2.2.1 x.2.1.1 x.2.1.2.1⟩,
  ⟨true, 12, ⟨cat [.one (.val (.int .i64))] (cat (ds 1) (cat [.one (.val (.slice (.st 1)))] (cat (ds 3) (cat [.one (.ptr 0 0)] (cat (ds 4) (cat [.one (.ref 1)] (cat (ds 24) (cat [.one (.val (.slice (.st 6))), .one (.val (.int .i64)), .one (.val (.int .i64))] (ds 54))))))))), [.var [.val (.int .u64), .val (.int .u64)], .arr (.st 1)], false⟩, fun k x => expr_Eval.l12 k x.1.1 x.1.2.1 x.1.2.2.1 x.1.2.2.2.1 x.1.2.2.2.2.1 x.2.1.1 x.2.1.2.1 x.2.2.1⟩,
  ⟨false, 24, ⟨cat [.one (.val (.int .i64))] (cat (ds 1) (cat [.one (.val (.slice (.st 1)))] (cat (ds 3) (cat [.one (.ptr 0 0)] (cat (ds 4) (cat [.one (.ref 1)] (cat (ds 2) (cat [.one (.ptr 2 0)] (cat (ds 21) (cat [.one (.val (.slice (.st 6))), .one (.val (.int .i64)), .one (.val (.int .i64))] (ds 54))))))))))), [.var [.val (.int .u64), .val (.int .u64)], .arr (.st 1), .var [.val (.int .u64), .val (.int .u64)]], false⟩, fun k x => expr_Eval.j24 k x.1.1 x.1.2.1 x.1.2.2.1 x.1.2.2.2.1 x.1.2.2.2.2.1 x.2.1.1 x.2.1.2.1 x.2.2.1 x.2.2.2.1.1 x.2.2.2.1.2.1⟩]
theorem expr_Eval.ok (k : Nat) : Okf (XR E) Try.prog 47 (expr_Eval.sig k) := ⟨fn_ok (C := fun k => tab.ctx fun f => lk f (expr_Eval.calls k)) (fun k => tie _) k (fun j hj => calls_ok (kc (expr_Check.ok j) (kc (octet_Of.ok j) (kc (tower_Add.ok j) (kc (tower_Mul.ok j) (kn)))))) 400 Try.func47 (body := expr_Eval.body) (res := [.cell 6 38, .tmp 7]) rfl (by kernel_rfl) expr_Eval.cuts (kc ⟨by kernel_rfl, rfl, fun _ => rfl, fun _ _ => by kernel_rfl⟩ (kc ⟨by kernel_rfl, rfl, fun _ => rfl, fun _ _ => by kernel_rfl⟩ (kc ⟨by kernel_rfl, rfl, fun _ => rfl, fun _ _ => by kernel_rfl⟩ (kn)))) (fun x => by kernel_rfl), _, Try.func47, by kernel_rfl, by kernel_rfl⟩
/-! ### steeple/expr.Degree: function 39 -/
def expr_Degree.f (k : Nat) (a0 : List S73) : Option Int := (expr_degrees.f k 7 9223372036854775807 a0).bind fun r0 => if r0.2 = 0 then (if 0 ≤ wrap64 ((r0.1.length : Int) - 1) then (if wrap64 ((r0.1.length : Int) - 1) < (r0.1.length : Int) then some (rdI r0.1 (wrap64 ((r0.1.length : Int) - 1))) else none) else none) else some (-1)
def expr_Degree.sig (k : Nat) : Sig E.toTys := ⟨[.slice (.st 6)], [(false, .int .i64)], none, fun x => f k x.1⟩
noncomputable def expr_Degree.body : Code := Try.f39.body.getD .skip
def expr_Degree.calls (k : Nat) : List (Nat × Sig E.toTys) := [(102, expr_degrees.sig k)]
def expr_Degree.cuts : List (Cut E (RT E.toTys [(false, .int .i64)])) := []
theorem expr_Degree.ok (k : Nat) : Okf (XR E) Try.prog 39 (expr_Degree.sig k) := ⟨fn_ok (C := fun k => tab.ctx fun f => lk f (expr_Degree.calls k)) (fun k => tie _) k (fun j hj => calls_ok (kc (expr_degrees.ok j) (kn))) 400 Try.func39 (body := expr_Degree.body) (res := [.tmp 2]) rfl (by kernel_rfl) expr_Degree.cuts (kn) (fun x => by kernel_rfl), _, Try.func39, by kernel_rfl, by kernel_rfl⟩
/-! ### steeple/steeplelaw16.awake: function 38 -/
def steeplelaw16_awake.f (k : Nat) : Option Bool := (steeplelaw16_example.f k).bind fun r0 => (expr_Eval.f k 1 r0 [(⟨0, 2⟩ : S38), (⟨0, 2⟩ : S38)]).bind fun r1 => (steeplelaw16_example.f k).bind fun r2 => (expr_Degree.f k r2).bind fun r3 => if r3 = 2 then (if r1.2 = 0 then some (decide (r1.1.f0 = 0 ∧ r1.1.f1 = 2)) else some false) else some false
def steeplelaw16_awake.sig (k : Nat) : Sig E.toTys := ⟨[], [(false, .bool)], none, fun x => f k⟩
noncomputable def steeplelaw16_awake.body : Code := Try.f38.body.getD .skip
def steeplelaw16_awake.calls (k : Nat) : List (Nat × Sig E.toTys) := [(101, steeplelaw16_example.sig k), (47, expr_Eval.sig k), (39, expr_Degree.sig k)]
def steeplelaw16_awake.cuts : List (Cut E (RT E.toTys [(false, .bool)])) := []
theorem steeplelaw16_awake.ok (k : Nat) : Okf (XR E) Try.prog 38 (steeplelaw16_awake.sig k) := ⟨fn_ok (C := fun k => tab.ctx fun f => lk f (steeplelaw16_awake.calls k)) (fun k => tie _) k (fun j hj => calls_ok (kc (steeplelaw16_example.ok j) (kc (expr_Eval.ok j) (kc (expr_Degree.ok j) (kn))))) 400 Try.func38 (body := steeplelaw16_awake.body) (res := [.tmp 0]) rfl (by kernel_rfl) steeplelaw16_awake.cuts (kn) (fun x => by kernel_rfl), _, Try.func38, by kernel_rfl, by kernel_rfl⟩
/-! ### steeple/steeplelaw16.Ref: function 41 -/
def steeplelaw16_Ref.l3 : Nat → List S73 → Int → List S154 → Option (List S154)
  | 0, _, _, _ => none
  | k + 1, x0, x1, x2 => if x1 < (x0.length : Int) then (if 0 ≤ x1 then (if x1 < (x0.length : Int) then (if 0 ≤ x1 then (if x1 < (x0.length : Int) then (if 0 ≤ x1 then (if x1 < (x0.length : Int) then (if 0 ≤ x1 then (if x1 < (x0.length : Int) then (if x2.length + [(⟨(rd73 x0 x1).f0, (rd73 x0 x1).f1, (rd73 x0 x1).f2, (⟨(rd73 x0 x1).f3.f0, (rd73 x0 x1).f3.f1⟩ : S51)⟩ : S154)].length ≤ 140737488355328 / 40 then steeplelaw16_Ref.l3 k x0 (wrap64 (x1 + 1)) (x2 ++ [(⟨(rd73 x0 x1).f0, (rd73 x0 x1).f1, (rd73 x0 x1).f2, (⟨(rd73 x0 x1).f3.f0, (rd73 x0 x1).f3.f1⟩ : S51)⟩ : S154)]) else none) else none) else none) else none) else none) else none) else none) else none) else none) else some x2
def steeplelaw16_Ref.f (k : Nat) (a0 : List S73) : Option (List S154) := steeplelaw16_Ref.l3 k a0 0 []
def steeplelaw16_Ref.sig (k : Nat) : Sig E.toTys := ⟨[.slice (.st 6)], [(true, .slice (.st 7))], none, fun x => f k x.1⟩
noncomputable def steeplelaw16_Ref.body : Code := Try.f41.body.getD .skip
def steeplelaw16_Ref.calls (k : Nat) : List (Nat × Sig E.toTys) := []
def steeplelaw16_Ref.cuts : List (Cut E (RT E.toTys [(true, .slice (.st 7))])) := [⟨true, 3, ⟨cat [.one (.val (.slice (.st 6)))] (cat (ds 2) (cat [.one (.ref 0), .one (.val (.int .i64))] (ds 31))), [.arr (.st 7)], false⟩, fun k x => steeplelaw16_Ref.l3 k x.1.1 x.1.2.1 x.2.1⟩]
theorem steeplelaw16_Ref.ok (k : Nat) : Okf (XR E) Try.prog 41 (steeplelaw16_Ref.sig k) := ⟨fn_ok (C := fun k => tab.ctx fun f => lk f (steeplelaw16_Ref.calls k)) (fun k => tie _) k (fun j hj => calls_ok (kn)) 400 Try.func41 (body := steeplelaw16_Ref.body) (res := [.tmp 2]) rfl (by kernel_rfl) steeplelaw16_Ref.cuts (kc ⟨by kernel_rfl, rfl, fun _ => rfl, fun _ _ => by kernel_rfl⟩ (kn)) (fun x => by kernel_rfl), _, Try.func41, by kernel_rfl, by kernel_rfl⟩
/-! ### steeple/steeplelaw16.ExprTrees: function 7 -/
def steeplelaw16_ExprTrees.f (k : Nat) (a0 : Int) (a1 : List S73) (a2 : List S38) : Option Bool := if (a1.length : Int) > 60 then ((steeplelaw16_awake.f k).bind fun r0 => some r0) else if (a2.length : Int) > 20 then ((steeplelaw16_awake.f k).bind fun r1 => some r1) else (steeplelaw16_Ref.f k a1).bind fun r2 => none
def steeplelaw16_ExprTrees.sig (k : Nat) : Sig E.toTys := ⟨[.int .i64, .slice (.st 6), .slice (.st 1)], [(false, .bool)], none, fun x => f k x.1 x.2.1 x.2.2.1⟩
noncomputable def steeplelaw16_ExprTrees.body : Code := Try.f7.body.getD .skip
def steeplelaw16_ExprTrees.calls (k : Nat) : List (Nat × Sig E.toTys) := [(38, steeplelaw16_awake.sig k), (41, steeplelaw16_Ref.sig k)]
def steeplelaw16_ExprTrees.cuts : List (Cut E (RT E.toTys [(false, .bool)])) := []
theorem steeplelaw16_ExprTrees.ok (k : Nat) : Okf (XR E) Try.prog 7 (steeplelaw16_ExprTrees.sig k) := ⟨fn_ok (C := fun k => tab.ctx fun f => lk f (steeplelaw16_ExprTrees.calls k)) (fun k => tie _) k (fun j hj => calls_ok (kc (steeplelaw16_awake.ok j) (kc (steeplelaw16_Ref.ok j) (kn)))) 400 Try.func7 (body := steeplelaw16_ExprTrees.body) (res := [.tmp 6]) rfl (by kernel_rfl) steeplelaw16_ExprTrees.cuts (kn) (fun x => by kernel_rfl), _, Try.func7, by kernel_rfl, by kernel_rfl⟩
/-! ### steeple/steeplelaw22.Few: function 48 -/
def steeplelaw22_Few.f (k : Nat) (a0 : S89) : Option Bool := if (a0.f2.length : Int) ≤ 12 then (if a0.f0 ≤ 2 then (if a0.f1 ≤ 3 then some (decide ((a0.f3.length : Int) ≤ 8)) else if a0.f1 > 6 then some (decide ((a0.f3.length : Int) ≤ 8)) else some false) else if a0.f0 > 6 then (if a0.f1 ≤ 3 then some (decide ((a0.f3.length : Int) ≤ 8)) else if a0.f1 > 6 then some (decide ((a0.f3.length : Int) ≤ 8)) else some false) else some false) else if (a0.f2.length : Int) > 200 then (if (a0.f2.length : Int) ≤ 210 then (if a0.f0 ≤ 2 then (if a0.f1 ≤ 3 then some (decide ((a0.f3.length : Int) ≤ 8)) else if a0.f1 > 6 then some (decide ((a0.f3.length : Int) ≤ 8)) else some false) else if a0.f0 > 6 then (if a0.f1 ≤ 3 then some (decide ((a0.f3.length : Int) ≤ 8)) else if a0.f1 > 6 then some (decide ((a0.f3.length : Int) ≤ 8)) else some false) else some false) else some false) else some false
def steeplelaw22_Few.sig (k : Nat) : Sig E.toTys := ⟨[.st 9], [(false, .bool)], none, fun x => f k x.1⟩
noncomputable def steeplelaw22_Few.body : Code := Try.f48.body.getD .skip
def steeplelaw22_Few.calls (k : Nat) : List (Nat × Sig E.toTys) := []
def steeplelaw22_Few.cuts : List (Cut E (RT E.toTys [(false, .bool)])) := []
theorem steeplelaw22_Few.ok (k : Nat) : Okf (XR E) Try.prog 48 (steeplelaw22_Few.sig k) := ⟨fn_ok (C := fun k => tab.ctx fun f => lk f (steeplelaw22_Few.calls k)) (fun k => tie _) k (fun j hj => calls_ok (kn)) 400 Try.func48 (body := steeplelaw22_Few.body) (res := [.tmp 2]) rfl (by kernel_rfl) steeplelaw22_Few.cuts (kn) (fun x => by kernel_rfl), _, Try.func48, by kernel_rfl, by kernel_rfl⟩
/-! ### steeple/claim.Check: function 53 -/
mutual
def claim_Check.j2 : Nat → Option Int
  | 0 => none
  | k + 1 => some 1
def claim_Check.l6 : Nat → Int → Int → List S102 → Int → Int → Option Int
  | 0, _, _, _, _, _ => none
  | k + 1, x0, x1, x2, x3, x4 => if x4 < x3 then (if 0 ≤ x4 then (if x4 < (x2.length : Int) then (if (rd102 x2 x4).f0 < 0 then some 4 else if 0 ≤ x0 then (if (rd102 x2 x4).f0 ≥ shl .i64 1 x0 then some 4 else (turn_Fits.f k (rd102 x2 x4).f1 x1 (rd102 x2 x4).f2).bind fun r0 => if (!r0) = true then some 1 else claim_Check.l6 k x0 x1 x2 x3 (wrap64 (x4 + 1))) else none) else none) else none) else some 0
end
def claim_Check.f (k : Nat) (a0 : Int) (a1 : Int) (a2 : List S102) : Option Int := if a0 < 0 then claim_Check.j2 k else if a0 > 6 then claim_Check.j2 k else if a1 < 0 then claim_Check.j2 k else if a1 > 6 then claim_Check.j2 k else if (a2.length : Int) > 200 then some 2 else claim_Check.l6 k a0 a1 a2 (a2.length : Int) 0
def claim_Check.sig (k : Nat) : Sig E.toTys := ⟨[.int .i64, .int .i64, .slice (.st 8)], [(false, .int .i64)], none, fun x => f k x.1 x.2.1 x.2.2.1⟩
noncomputable def claim_Check.body : Code := Try.f53.body.getD .skip
def claim_Check.calls (k : Nat) : List (Nat × Sig E.toTys) := [(75, turn_Fits.sig k)]
def claim_Check.cuts : List (Cut E (RT E.toTys [(false, .int .i64)])) := [⟨false, 2, ⟨ds 54, [], false⟩, fun k x => claim_Check.j2 k⟩,
  ⟨true, 6, ⟨cat [.one (.val (.int .i64)), .one (.val (.int .i64))] (cat (ds 26) (cat [.one (.val (.slice (.st 8))), .one (.val (.int .i64)), .one (.val (.int .i64))] (ds 23))), [], false⟩, fun k x => claim_Check.l6 k x.1.1 x.1.2.1 x.1.2.2.1 x.1.2.2.2.1 x.1.2.2.2.2.1⟩]
theorem claim_Check.ok (k : Nat) : Okf (XR E) Try.prog 53 (claim_Check.sig k) := ⟨fn_ok (C := fun k => tab.ctx fun f => lk f (claim_Check.calls k)) (fun k => tie _) k (fun j hj => calls_ok (kc (turn_Fits.ok j) (kn))) 400 Try.func53 (body := claim_Check.body) (res := [.tmp 6]) rfl (by kernel_rfl) claim_Check.cuts (kc ⟨by kernel_rfl, rfl, fun _ => rfl, fun _ _ => by kernel_rfl⟩ (kc ⟨by kernel_rfl, rfl, fun _ => rfl, fun _ _ => by kernel_rfl⟩ (kn))) (fun x => by kernel_rfl), _, Try.func53, by kernel_rfl, by kernel_rfl⟩
/-! ### steeple/claim.of$1: function 143 -/
def claim_of_1.f (k : Nat) (a0 : S38) (a1 : Option Int) : Option Bool := (match a1 with | none => none | some r0 => (octet_Of.f k r0 a0).bind fun r1 => some (!r1))
def claim_of_1.sig (k : Nat) : Sig E.toTys := ⟨[.st 1, .ptr (.int .i64)], [(false, .bool)], none, fun x => f k x.1 x.2.1⟩
noncomputable def claim_of_1.body : Code := Try.f143.body.getD .skip
def claim_of_1.calls (k : Nat) : List (Nat × Sig E.toTys) := [(82, octet_Of.sig k)]
def claim_of_1.cuts : List (Cut E (RT E.toTys [(false, .bool)])) := []
theorem claim_of_1.ok (k : Nat) : Okf (XR E) Try.prog 143 (claim_of_1.sig k) := ⟨fn_ok (C := fun k => tab.ctx fun f => lk f (claim_of_1.calls k)) (fun k => tie _) k (fun j hj => calls_ok (kc (octet_Of.ok j) (kn))) 400 Try.func143 (body := claim_of_1.body) (res := [.tmp 3]) rfl (by kernel_rfl) claim_of_1.cuts (kn) (fun x => by kernel_rfl), _, Try.func143, by kernel_rfl, by kernel_rfl⟩
/-! ### slices.IndexFunc: function 159 -/
def slices_IndexFunc159_c143.l2 : Nat → List S38 → Int → Int → Int → Option Int
  | 0, _, _, _, _ => none
  | k + 1, x0, x1, x2, x3 => if x3 < x2 then (if 0 ≤ x3 then (if x3 < (x0.length : Int) then ((claim_of_1.f k (rd38 x0 x3) (some x1)).bind fun r0 => if r0 = true then some x3 else slices_IndexFunc159_c143.l2 k x0 x1 x2 (wrap64 (x3 + 1))) else none) else none) else some (-1)
def slices_IndexFunc159_c143.f (k : Nat) (a0 : List S38) (a1 : Int) : Option Int := slices_IndexFunc159_c143.l2 k a0 a1 (a0.length : Int) 0
def slices_IndexFunc159_c143.sig (k : Nat) : Sig E.toTys := ⟨[.slice (.st 1), .ext 143 (.int .i64)], [(false, .int .i64)], none, fun x => f k x.1 x.2.1⟩
noncomputable def slices_IndexFunc159_c143.body : Code := Try.f159.body.getD .skip
def slices_IndexFunc159_c143.calls (k : Nat) : List (Nat × Sig E.toTys) := [(143, claim_of_1.sig k)]
def slices_IndexFunc159_c143.cuts : List (Cut E (RT E.toTys [(false, .int .i64)])) := [⟨true, 2, ⟨cat [.one (.val (.slice (.st 1))), .one (.val (.ext 143 (.int .i64)))] (cat (ds 5) (cat [.one (.val (.int .i64)), .one (.val (.int .i64))] (ds 10))), [], false⟩, fun k x => slices_IndexFunc159_c143.l2 k x.1.1 x.1.2.1 x.1.2.2.1 x.1.2.2.2.1⟩]
theorem slices_IndexFunc159_c143.ok (k : Nat) : Okf (XR E) Try.prog 159 (slices_IndexFunc159_c143.sig k) := ⟨fn_ok (C := fun k => tab.ctx fun f => lk f (slices_IndexFunc159_c143.calls k)) (fun k => tie _) k (fun j hj => calls_ok (kc (claim_of_1.ok j) (kn))) 400 Try.func159 (body := slices_IndexFunc159_c143.body) (res := [.tmp 4]) rfl (by kernel_rfl) slices_IndexFunc159_c143.cuts (kc ⟨by kernel_rfl, rfl, fun _ => rfl, fun _ _ => by kernel_rfl⟩ (kn)) (fun x => by kernel_rfl), _, Try.func159, by kernel_rfl, by kernel_rfl⟩
/-! ### slices.ContainsFunc: function 126 -/
def slices_ContainsFunc126_c143.f (k : Nat) (a0 : List S38) (a1 : Int) : Option Bool := (slices_IndexFunc159_c143.f k a0 a1).bind fun r0 => some (decide (r0 ≥ 0))
def slices_ContainsFunc126_c143.sig (k : Nat) : Sig E.toTys := ⟨[.slice (.st 1), .ext 143 (.int .i64)], [(false, .bool)], none, fun x => f k x.1 x.2.1⟩
noncomputable def slices_ContainsFunc126_c143.body : Code := Try.f126.body.getD .skip
def slices_ContainsFunc126_c143.calls (k : Nat) : List (Nat × Sig E.toTys) := [(159, slices_IndexFunc159_c143.sig k)]
def slices_ContainsFunc126_c143.cuts : List (Cut E (RT E.toTys [(false, .bool)])) := []
theorem slices_ContainsFunc126_c143.ok (k : Nat) : Okf (XR E) Try.prog 126 (slices_ContainsFunc126_c143.sig k) := ⟨fn_ok (C := fun k => tab.ctx fun f => lk f (slices_ContainsFunc126_c143.calls k)) (fun k => tie _) k (fun j hj => calls_ok (kc (slices_IndexFunc159_c143.ok j) (kn))) 400 Try.func126 (body := slices_ContainsFunc126_c143.body) (res := [.tmp 4]) rfl (by kernel_rfl) slices_ContainsFunc126_c143.cuts (kn) (fun x => by kernel_rfl), _, Try.func126, by kernel_rfl, by kernel_rfl⟩
/-! ### steeple/claim.of: function 110 -/
def claim_of.f (k : Nat) (a0 : Int) (a1 : List S38) : Option Bool := (slices_ContainsFunc126_c143.f k a1 a0).bind fun r0 => some (!r0)
def claim_of.sig (k : Nat) : Sig E.toTys := ⟨[.int .i64, .slice (.st 1)], [(false, .bool)], none, fun x => f k x.1 x.2.1⟩
noncomputable def claim_of.body : Code := Try.f110.body.getD .skip
def claim_of.calls (k : Nat) : List (Nat × Sig E.toTys) := [(126, slices_ContainsFunc126_c143.sig k)]
def claim_of.cuts : List (Cut E (RT E.toTys [(false, .bool)])) := []
theorem claim_of.ok (k : Nat) : Okf (XR E) Try.prog 110 (claim_of.sig k) := ⟨fn_ok (C := fun k => tab.ctx fun f => lk f (claim_of.calls k)) (fun k => tie _) k (fun j hj => calls_ok (kc (slices_ContainsFunc126_c143.ok j) (kn))) 400 Try.func110 (body := claim_of.body) (res := [.tmp 4]) rfl (by kernel_rfl) claim_of.cuts (kn) (fun x => by kernel_rfl), _, Try.func110, by kernel_rfl, by kernel_rfl⟩
end Go.Proofs.Ytdpbogooceiaaaa.B
namespace Go.Proofs.Ytdpbogooceiaaaa.B
open Go.Proofs.Ytdpbogooceiaaaa.V.B Go.RowKit
set_option linter.unusedVariables false
/-! ### steeple/claim.ask: function 109 -/
def claim_ask.f (k : Nat) (a0 : Int) (a1 : Int) (a2 : Int) (a3 : List S102) (a4 : List S38) (a5 : List S38) : Option Int := (octet_Wide.f k a0).bind fun r0 => if r0 = 0 then some 1 else (claim_Check.f k a1 a2 a3).bind fun r1 => if r1 = 0 then (if (a4.length : Int) = a2 then ((claim_of.f k a0 a4).bind fun r2 => if (!r2) = true then some 5 else (claim_of.f k a0 a5).bind fun r3 => if (!r3) = true then some 5 else some 0) else some 6) else some r1
def claim_ask.sig (k : Nat) : Sig E.toTys := ⟨[.int .i64, .int .i64, .int .i64, .slice (.st 8), .slice (.st 1), .slice (.st 1)], [(false, .int .i64)], none, fun x => f k x.1 x.2.1 x.2.2.1 x.2.2.2.1 x.2.2.2.2.1 x.2.2.2.2.2.1⟩
noncomputable def claim_ask.body : Code := Try.f109.body.getD .skip
def claim_ask.calls (k : Nat) : List (Nat × Sig E.toTys) := [(77, octet_Wide.sig k), (53, claim_Check.sig k), (110, claim_of.sig k)]
def claim_ask.cuts : List (Cut E (RT E.toTys [(false, .int .i64)])) := []
theorem claim_ask.ok (k : Nat) : Okf (XR E) Try.prog 109 (claim_ask.sig k) := ⟨fn_ok (C := fun k => tab.ctx fun f => lk f (claim_ask.calls k)) (fun k => tie _) k (fun j hj => calls_ok (kc (octet_Wide.ok j) (kc (claim_Check.ok j) (kc (claim_of.ok j) (kn))))) 400 Try.func109 (body := claim_ask.body) (res := [.tmp 12]) rfl (by kernel_rfl) claim_ask.cuts (kn) (fun x => by kernel_rfl), _, Try.func109, by kernel_rfl, by kernel_rfl⟩
/-! ### steeple/claim.powers: function 107 -/
def claim_powers.f (k : Nat) (a0 : Int) (a1 : S38) : Option (S38 × Int × S38 × Unit) := (tower_One.f k).bind fun r0 => some (r0, a0, a1, ())
def claim_powers.csig (k : Nat) : CloSig E.toTys := ⟨[.int .i64, .st 1], 142, .st 1, [.int .i64, .st 1], fun x => claim_powers.f k x.1 x.2.1⟩
noncomputable def claim_powers.body : Code := Try.f107.body.getD .skip
def claim_powers.calls (k : Nat) : List (Nat × Sig E.toTys) := [(98, tower_One.sig k)]
theorem claim_powers.okc (k : Nat) : Okc (XR E) Try.prog 107 (claim_powers.csig k) := ⟨fn_okC (C := fun k => tab.ctx fun f => lk f (claim_powers.calls k)) (fun k => tie _) k (fun j hj => calls_ok (kc (tower_One.ok j) (kn))) 400 Try.func107 (body := claim_powers.body) (res := [.tmp 4]) rfl (by kernel_rfl) [] kn (fun x => by kernel_rfl), _, Try.func107, by kernel_rfl, by kernel_rfl⟩
/-! ### steeple/claim.powers$1: function 142 -/
def claim_powers_1.f (k : Nat) (a0 : Option S38) (a1 : Option Int) (a2 : Option S38) : Option ((Option S38) × S38) := (match a0 with | none => none | some r0 => (match a1 with | none => none | some r1 => (match a2 with | none => none | some r2 => (tower_Mul.f k r1 r0 r2).bind fun r3 => some (some r3, r0))))
def claim_powers_1.sig (k : Nat) : Sig E.toTys := ⟨[.ptr (.st 1), .ptr (.int .i64), .ptr (.st 1)], [(true, .ptr (.st 1)), (false, .st 1)], some 0, fun x => f k x.1 x.2.1 x.2.2.1⟩
noncomputable def claim_powers_1.body : Code := Try.f142.body.getD .skip
def claim_powers_1.calls (k : Nat) : List (Nat × Sig E.toTys) := [(83, tower_Mul.sig k)]
def claim_powers_1.cuts : List (Cut E (RT E.toTys [(true, .ptr (.st 1)), (false, .st 1)])) := []
theorem claim_powers_1.ok (k : Nat) : Okf (XR E) Try.prog 142 (claim_powers_1.sig k) := ⟨fn_okIO (C := fun k => tab.ctx fun f => lk f (claim_powers_1.calls k)) (fun k => tie _) k (fun j hj => calls_ok (kc (tower_Mul.ok j) (kn))) 400 0 Try.func142 (body := claim_powers_1.body) (res := [.cell 3 38]) rfl (by kernel_rfl) claim_powers_1.cuts (kn) (fun x => by rcases x with ⟨_ | y, z⟩ <;> kernel_rfl), _, Try.func142, by kernel_rfl, by kernel_rfl⟩
/-! ### steeple/claim.Mask: function 62 -/
mutual
def claim_Mask.l7 : Nat → Int → Int → List S38 → Option Int → Option S38 → List S102 → Int → Int → Int → Int → List S38 → Option ((List S38) × Int)
  | 0, _, _, _, _, _, _, _, _, _, _, _ => none
  | k + 1, x0, x1, x2, x3, x4, x5, x6, x7, x8, x9, x10 => if x7 < x6 then (if 0 ≤ x7 then (if x7 < (x5.length : Int) then ((claim_powers_1.f k (some (⟨x8, x9⟩ : S38)) x3 x4).bind fun r2 => (match r2.1 with | none => none | some r3 => (turn_Row.f k x0 (rd102 x5 x7).f1 x1 (rd102 x5 x7).f2 x2).bind fun r4 => claim_Mask.l12 k x0 x1 x2 x3 x4 x5 x6 x7 (r4.1.length : Int) 0 r3.f0 r3.f1 x10 (rd102 x5 x7).f0 (rd102 x5 x7).f1 (rd102 x5 x7).f2 (rd102 x5 x7).f3.f0 (rd102 x5 x7).f3.f1 r2.2.f0 r2.2.f1 r4.1)) else none) else none) else some (x10, 0)
def claim_Mask.l12 : Nat → Int → Int → List S38 → Option Int → Option S38 → List S102 → Int → Int → Int → Int → Int → Int → List S38 → Int → Int → Int → Int → Int → Int → Int → List S38 → Option ((List S38) × Int)
  | 0, _, _, _, _, _, _, _, _, _, _, _, _, _, _, _, _, _, _, _, _, _ => none
  | k + 1, x0, x1, x2, x3, x4, x5, x6, x7, x8, x9, x10, x11, x12, x13, x14, x15, x16, x17, x18, x19, x20 => if x9 < x8 then (if 0 ≤ x9 then (if x9 < (x20.length : Int) then (if 0 ≤ x1 then (if 0 ≤ wrap64 ((shl .i64 x13 x1) + x9) then (if wrap64 ((shl .i64 x13 x1) + x9) < (x12.length : Int) then ((tower_Mul.f k x0 (⟨x18, x19⟩ : S38) (rd38 x20 x9)).bind fun r5 => (tower_Add.f k (rd38 x12 (wrap64 ((shl .i64 x13 x1) + x9))) r5).bind fun r6 => if 0 ≤ wrap64 ((shl .i64 x13 x1) + x9) then (if wrap64 ((shl .i64 x13 x1) + x9) < (x12.length : Int) then claim_Mask.l12 k x0 x1 x2 x3 x4 x5 x6 x7 x8 (wrap64 (x9 + 1)) x10 x11 (x12.set (Int.toNat (wrap64 ((shl .i64 x13 x1) + x9))) r6) x13 x14 x15 x16 x17 x18 x19 x20 else none) else none) else none) else none) else none) else none) else none) else claim_Mask.l7 k x0 x1 x2 x3 x4 x5 x6 (wrap64 (x7 + 1)) x10 x11 x12
end
def claim_Mask.f (k : Nat) (a0 : Int) (a1 : Int) (a2 : Int) (a3 : List S102) (a4 : List S38) (a5 : S38) : Option ((List S38) × Int) := (claim_ask.f k a0 a1 a2 a3 a4 [a5]).bind fun r0 => if r0 = 0 then ((claim_powers.f k a0 a5).bind fun r1 => if 0 ≤ wrap64 (a2 + a1) then (if 0 ≤ shl .i64 1 (wrap64 (a2 + a1)) then (if shl .i64 1 (wrap64 (a2 + a1)) ≤ 140737488355328 / ((16 : Nat) : Int) then claim_Mask.l7 k a0 a2 a4 (some r1.2.1) (some r1.2.2.1) a3 (a3.length : Int) 0 r1.1.f0 r1.1.f1 (List.replicate (Int.toNat (shl .i64 1 (wrap64 (a2 + a1)))) z38) else none) else none) else none) else some ([], r0)
def claim_Mask.sig (k : Nat) : Sig E.toTys := ⟨[.int .i64, .int .i64, .int .i64, .slice (.st 8), .slice (.st 1), .st 1], [(true, .slice (.st 1)), (false, .int .i64)], none, fun x => f k x.1 x.2.1 x.2.2.1 x.2.2.2.1 x.2.2.2.2.1 x.2.2.2.2.2.1⟩
noncomputable def claim_Mask.body : Code := Try.f62.body.getD .skip
def claim_Mask.clos (k : Nat) : List (Nat × CloSig E.toTys) := [(107, claim_powers.csig k)]
def claim_Mask.calls (k : Nat) : List (Nat × Sig E.toTys) := [(109, claim_ask.sig k), (142, claim_powers_1.sig k), (18, turn_Row.sig k), (83, tower_Mul.sig k), (80, tower_Add.sig k)]
def claim_Mask.cuts : List (Cut E (RT E.toTys [(true, .slice (.st 1)), (false, .int .i64)])) := [⟨true, 7, ⟨cat [.one (.val (.int .i64))] (cat (ds 1) (cat [.one (.val (.int .i64))] (cat (ds 1) (cat [.one (.val (.slice (.st 1)))] (cat (ds 10) (cat [.clo 142 [.ptr 0 0, .val (.ptr (.int .i64)), .val (.ptr (.st 1))], .one (.ref 1)] (cat (ds 27) (cat [.one (.val (.slice (.st 8))), .one (.val (.int .i64)), .one (.val (.int .i64))] (ds 44))))))))), [.var [.val (.int .u64), .val (.int .u64)], .arr (.st 1)], false⟩, fun k x => claim_Mask.l7 k x.1.1 x.1.2.1 x.1.2.2.1 x.1.2.2.2.1.1 x.1.2.2.2.1.2.1 x.1.2.2.2.2.1 x.1.2.2.2.2.2.1 x.1.2.2.2.2.2.2.1 x.2.1.1 x.2.1.2.1 x.2.2.1⟩,
  ⟨true, 12, ⟨cat [.one (.val (.int .i64))] (cat (ds 1) (cat [.one (.val (.int .i64))] (cat (ds 1) (cat [.one (.val (.slice (.st 1)))] (cat (ds 10) (cat [.clo 142 [.ptr 0 0, .val (.ptr (.int .i64)), .val (.ptr (.st 1))], .one (.ref 1)] (cat (ds 1) (cat [.one (.ptr 2 0), .one (.ptr 3 0)] (cat (ds 24) (cat [.one (.val (.slice (.st 8))), .one (.val (.int .i64)), .one (.val (.int .i64))] (cat (ds 16) (cat [.one (.ref 4), .one (.val (.int .i64)), .one (.val (.int .i64))] (ds 25))))))))))))), [.var [.val (.int .u64), .val (.int .u64)], .arr (.st 1), .var [.val (.int .i64), .val (.int .i64), .val (.int .i64), .val (.int .u64), .val (.int .u64)], .var [.val (.int .u64), .val (.int .u64)], .arr (.st 1)], false⟩, fun k x => claim_Mask.l12 k x.1.1 x.1.2.1 x.1.2.2.1 x.1.2.2.2.1.1 x.1.2.2.2.1.2.1 x.1.2.2.2.2.1 x.1.2.2.2.2.2.1 x.1.2.2.2.2.2.2.1 x.1.2.2.2.2.2.2.2.1 x.1.2.2.2.2.2.2.2.2.1 x.2.1.1 x.2.1.2.1 x.2.2.1 x.2.2.2.1.1 x.2.2.2.1.2.1 x.2.2.2.1.2.2.1 x.2.2.2.1.2.2.2.1 x.2.2.2.1.2.2.2.2.1 x.2.2.2.2.1.1 x.2.2.2.2.1.2.1 x.2.2.2.2.2.1⟩]
theorem claim_Mask.ok (k : Nat) : Okf (XR E) Try.prog 62 (claim_Mask.sig k) := ⟨fn_ok (C := fun k => (tab.ctx fun f => lk f (claim_Mask.calls k)).cl (claim_Mask.clos k)) (fun k => (tie _).cl _) k (fun j hj => (calls_ok (kc (claim_ask.ok j) (kc (claim_powers_1.ok j) (kc (turn_Row.ok j) (kc (tower_Mul.ok j) (kc (tower_Add.ok j) (kn))))))).cl (kc (claim_powers.okc j) (kn))) 400 Try.func62 (body := claim_Mask.body) (res := [.tmp 12, .tmp 13]) rfl (by kernel_rfl) claim_Mask.cuts (kc ⟨by kernel_rfl, rfl, fun _ => rfl, fun _ _ => by kernel_rfl⟩ (kc ⟨by kernel_rfl, rfl, fun _ => rfl, fun _ _ => by kernel_rfl⟩ (kn))) (fun x => by kernel_rfl), _, Try.func62, by kernel_rfl, by kernel_rfl⟩
/-! ### steeple/steeplelaw22.awake: function 49 -/
def steeplelaw22_awake.f (k : Nat) : Option Bool := (claim_Mask.f k 1 0 1 [(⟨0, 0, 0, (⟨0, 0⟩ : S38)⟩ : S102)] [(⟨0, 2⟩ : S38)] (⟨0, 3⟩ : S38)).bind fun r0 => if r0.2 = 0 then (if (r0.1.length : Int) = 2 then (if 0 < (r0.1.length : Int) then (if (rd38 r0.1 (0 : Int)).f0 = 0 ∧ (rd38 r0.1 (0 : Int)).f1 = 3 then (if 1 < (r0.1.length : Int) then some (decide ((rd38 r0.1 (1 : Int)).f0 = 0 ∧ (rd38 r0.1 (1 : Int)).f1 = 2)) else none) else some false) else none) else some false) else some false
def steeplelaw22_awake.sig (k : Nat) : Sig E.toTys := ⟨[], [(false, .bool)], none, fun x => f k⟩
noncomputable def steeplelaw22_awake.body : Code := Try.f49.body.getD .skip
def steeplelaw22_awake.calls (k : Nat) : List (Nat × Sig E.toTys) := [(62, claim_Mask.sig k)]
def steeplelaw22_awake.cuts : List (Cut E (RT E.toTys [(false, .bool)])) := []
theorem steeplelaw22_awake.ok (k : Nat) : Okf (XR E) Try.prog 49 (steeplelaw22_awake.sig k) := ⟨fn_ok (C := fun k => tab.ctx fun f => lk f (steeplelaw22_awake.calls k)) (fun k => tie _) k (fun j hj => calls_ok (kc (claim_Mask.ok j) (kn))) 400 Try.func49 (body := steeplelaw22_awake.body) (res := [.tmp 0]) rfl (by kernel_rfl) steeplelaw22_awake.cuts (kn) (fun x => by kernel_rfl), _, Try.func49, by kernel_rfl, by kernel_rfl⟩
/-! ### steeple/claim.Total$1: function 106 -/
def claim_Total_1.f (k : Nat) (a0 : S102) (a1 : Option Int) : Option Bool := (match a1 with | none => none | some r0 => (octet_Of.f k r0 a0.f3).bind fun r1 => some (!r1))
def claim_Total_1.sig (k : Nat) : Sig E.toTys := ⟨[.st 8, .ptr (.int .i64)], [(false, .bool)], none, fun x => f k x.1 x.2.1⟩
noncomputable def claim_Total_1.body : Code := Try.f106.body.getD .skip
def claim_Total_1.calls (k : Nat) : List (Nat × Sig E.toTys) := [(82, octet_Of.sig k)]
def claim_Total_1.cuts : List (Cut E (RT E.toTys [(false, .bool)])) := []
theorem claim_Total_1.ok (k : Nat) : Okf (XR E) Try.prog 106 (claim_Total_1.sig k) := ⟨fn_ok (C := fun k => tab.ctx fun f => lk f (claim_Total_1.calls k)) (fun k => tie _) k (fun j hj => calls_ok (kc (octet_Of.ok j) (kn))) 400 Try.func106 (body := claim_Total_1.body) (res := [.tmp 3]) rfl (by kernel_rfl) claim_Total_1.cuts (kn) (fun x => by kernel_rfl), _, Try.func106, by kernel_rfl, by kernel_rfl⟩
/-! ### slices.IndexFunc: function 141 -/
def slices_IndexFunc141_c106.l2 : Nat → List S102 → Int → Int → Int → Option Int
  | 0, _, _, _, _ => none
  | k + 1, x0, x1, x2, x3 => if x3 < x2 then (if 0 ≤ x3 then (if x3 < (x0.length : Int) then ((claim_Total_1.f k (rd102 x0 x3) (some x1)).bind fun r0 => if r0 = true then some x3 else slices_IndexFunc141_c106.l2 k x0 x1 x2 (wrap64 (x3 + 1))) else none) else none) else some (-1)
def slices_IndexFunc141_c106.f (k : Nat) (a0 : List S102) (a1 : Int) : Option Int := slices_IndexFunc141_c106.l2 k a0 a1 (a0.length : Int) 0
def slices_IndexFunc141_c106.sig (k : Nat) : Sig E.toTys := ⟨[.slice (.st 8), .ext 106 (.int .i64)], [(false, .int .i64)], none, fun x => f k x.1 x.2.1⟩
noncomputable def slices_IndexFunc141_c106.body : Code := Try.f141.body.getD .skip
def slices_IndexFunc141_c106.calls (k : Nat) : List (Nat × Sig E.toTys) := [(106, claim_Total_1.sig k)]
def slices_IndexFunc141_c106.cuts : List (Cut E (RT E.toTys [(false, .int .i64)])) := [⟨true, 2, ⟨cat [.one (.val (.slice (.st 8))), .one (.val (.ext 106 (.int .i64)))] (cat (ds 5) (cat [.one (.val (.int .i64)), .one (.val (.int .i64))] (ds 10))), [], false⟩, fun k x => slices_IndexFunc141_c106.l2 k x.1.1 x.1.2.1 x.1.2.2.1 x.1.2.2.2.1⟩]
theorem slices_IndexFunc141_c106.ok (k : Nat) : Okf (XR E) Try.prog 141 (slices_IndexFunc141_c106.sig k) := ⟨fn_ok (C := fun k => tab.ctx fun f => lk f (slices_IndexFunc141_c106.calls k)) (fun k => tie _) k (fun j hj => calls_ok (kc (claim_Total_1.ok j) (kn))) 400 Try.func141 (body := slices_IndexFunc141_c106.body) (res := [.tmp 4]) rfl (by kernel_rfl) slices_IndexFunc141_c106.cuts (kc ⟨by kernel_rfl, rfl, fun _ => rfl, fun _ _ => by kernel_rfl⟩ (kn)) (fun x => by kernel_rfl), _, Try.func141, by kernel_rfl, by kernel_rfl⟩
/-! ### slices.ContainsFunc: function 105 -/
def slices_ContainsFunc105_c106.f (k : Nat) (a0 : List S102) (a1 : Int) : Option Bool := (slices_IndexFunc141_c106.f k a0 a1).bind fun r0 => some (decide (r0 ≥ 0))
def slices_ContainsFunc105_c106.sig (k : Nat) : Sig E.toTys := ⟨[.slice (.st 8), .ext 106 (.int .i64)], [(false, .bool)], none, fun x => f k x.1 x.2.1⟩
noncomputable def slices_ContainsFunc105_c106.body : Code := Try.f105.body.getD .skip
def slices_ContainsFunc105_c106.calls (k : Nat) : List (Nat × Sig E.toTys) := [(141, slices_IndexFunc141_c106.sig k)]
def slices_ContainsFunc105_c106.cuts : List (Cut E (RT E.toTys [(false, .bool)])) := []
theorem slices_ContainsFunc105_c106.ok (k : Nat) : Okf (XR E) Try.prog 105 (slices_ContainsFunc105_c106.sig k) := ⟨fn_ok (C := fun k => tab.ctx fun f => lk f (slices_ContainsFunc105_c106.calls k)) (fun k => tie _) k (fun j hj => calls_ok (kc (slices_IndexFunc141_c106.ok j) (kn))) 400 Try.func105 (body := slices_ContainsFunc105_c106.body) (res := [.tmp 4]) rfl (by kernel_rfl) slices_ContainsFunc105_c106.cuts (kn) (fun x => by kernel_rfl), _, Try.func105, by kernel_rfl, by kernel_rfl⟩
/-! ### steeple/claim.Total: function 50 -/
def claim_Total.l8 : Nat → Option Int → Option S38 → List S102 → Int → Int → Int → Int → Int → Int → Int → Int → Int → Option (S38 × Int)
  | 0, _, _, _, _, _, _, _, _, _, _, _, _ => none
  | k + 1, x0, x1, x2, x3, x4, x5, x6, x7, x8, x9, x10, x11 => if x4 < x3 then (if 0 ≤ x4 then (if x4 < (x2.length : Int) then ((claim_powers_1.f k (some (⟨x8, x9⟩ : S38)) x0 x1).bind fun r4 => (match r4.1 with | none => none | some r5 => (tower_Mul.f k x5 r4.2 (rd102 x2 x4).f3).bind fun r6 => (tower_Add.f k (⟨x10, x11⟩ : S38) r6).bind fun r7 => claim_Total.l8 k x0 x1 x2 x3 (wrap64 (x4 + 1)) x5 x6 x7 r5.f0 r5.f1 r7.f0 r7.f1)) else none) else none) else some ((⟨x10, x11⟩ : S38), 0)
def claim_Total.f (k : Nat) (a0 : Int) (a1 : List S102) (a2 : S38) : Option (S38 × Int) := (octet_Wide.f k a0).bind fun r0 => if r0 = 0 then some ((⟨0, 0⟩ : S38), 1) else (octet_Of.f k a0 a2).bind fun r1 => if (!r1) = true then some ((⟨0, 0⟩ : S38), 5) else (slices_ContainsFunc105_c106.f k a1 a0).bind fun r2 => if r2 = true then some ((⟨0, 0⟩ : S38), 5) else (claim_powers.f k a0 a2).bind fun r3 => claim_Total.l8 k (some r3.2.1) (some r3.2.2.1) a1 (a1.length : Int) 0 a0 0 0 r3.1.f0 r3.1.f1 0 0
def claim_Total.sig (k : Nat) : Sig E.toTys := ⟨[.int .i64, .slice (.st 8), .st 1], [(false, .st 1), (false, .int .i64)], none, fun x => f k x.1 x.2.1 x.2.2.1⟩
noncomputable def claim_Total.body : Code := Try.f50.body.getD .skip
def claim_Total.clos (k : Nat) : List (Nat × CloSig E.toTys) := [(107, claim_powers.csig k)]
def claim_Total.calls (k : Nat) : List (Nat × Sig E.toTys) := [(77, octet_Wide.sig k), (82, octet_Of.sig k), (105, slices_ContainsFunc105_c106.sig k), (142, claim_powers_1.sig k), (83, tower_Mul.sig k), (80, tower_Add.sig k)]
def claim_Total.cuts : List (Cut E (RT E.toTys [(false, .st 1), (false, .int .i64)])) := [⟨true, 8, ⟨cat (ds 3) (cat [.one (.ptr 0 0)] (cat (ds 2) (cat [.one (.ptr 1 0)] (cat (ds 1) (cat [.clo 142 [.ptr 2 0, .val (.ptr (.int .i64)), .val (.ptr (.st 1))], .one (.ptr 3 0)] (cat (ds 21) (cat [.one (.val (.slice (.st 8))), .one (.val (.int .i64)), .one (.val (.int .i64))] (ds 13)))))))), [.var [.val (.int .i64)], .var [.val (.int .u64), .val (.int .u64)], .var [.val (.int .u64), .val (.int .u64)], .var [.val (.int .u64), .val (.int .u64)]], false⟩, fun k x => claim_Total.l8 k x.1.1.1 x.1.1.2.1 x.1.2.1 x.1.2.2.1 x.1.2.2.2.1 x.2.1.1 x.2.2.1.1 x.2.2.1.2.1 x.2.2.2.1.1 x.2.2.2.1.2.1 x.2.2.2.2.1.1 x.2.2.2.2.1.2.1⟩]
theorem claim_Total.ok (k : Nat) : Okf (XR E) Try.prog 50 (claim_Total.sig k) := ⟨fn_ok (C := fun k => ((tab.ctx fun f => lk f (claim_Total.calls k)).cl (claim_Total.clos k)).pmd [(10, 0, [3]), (10, 1, [0]), (10, 3, [2]), (10, 5, [4]), (10, 6, []), (10, 7, []), (10, 8, [3])]) (fun k => ((tie _).cl _).pmd _) k (fun j hj => ((calls_ok (kc (octet_Wide.ok j) (kc (octet_Of.ok j) (kc (slices_ContainsFunc105_c106.ok j) (kc (claim_powers_1.ok j) (kc (tower_Mul.ok j) (kc (tower_Add.ok j) (kn)))))))).cl (kc (claim_powers.okc j) (kn))).pmd _) 400 Try.func50 (body := claim_Total.body) (res := [.cell 6 38, .tmp 7]) rfl (by kernel_rfl) claim_Total.cuts (kc ⟨by kernel_rfl, rfl, fun _ => rfl, fun _ _ => by kernel_rfl⟩ (kn)) (fun x => by kernel_rfl), _, Try.func50, by kernel_rfl, by kernel_rfl⟩
/-! ### steeple/steeplelaw22.Ref: function 52 -/
def steeplelaw22_Ref.l3 : Nat → List S102 → Int → List S111 → Option (List S111)
  | 0, _, _, _ => none
  | k + 1, x0, x1, x2 => if x1 < (x0.length : Int) then (if 0 ≤ x1 then (if x1 < (x0.length : Int) then (if 0 ≤ x1 then (if x1 < (x0.length : Int) then (if 0 ≤ x1 then (if x1 < (x0.length : Int) then (if 0 ≤ x1 then (if x1 < (x0.length : Int) then (if x2.length + [(⟨(rd102 x0 x1).f0, (rd102 x0 x1).f1, (rd102 x0 x1).f2, (⟨(rd102 x0 x1).f3.f0, (rd102 x0 x1).f3.f1⟩ : S51)⟩ : S111)].length ≤ 140737488355328 / 40 then steeplelaw22_Ref.l3 k x0 (wrap64 (x1 + 1)) (x2 ++ [(⟨(rd102 x0 x1).f0, (rd102 x0 x1).f1, (rd102 x0 x1).f2, (⟨(rd102 x0 x1).f3.f0, (rd102 x0 x1).f3.f1⟩ : S51)⟩ : S111)]) else none) else none) else none) else none) else none) else none) else none) else none) else none) else some x2
def steeplelaw22_Ref.f (k : Nat) (a0 : List S102) : Option (List S111) := steeplelaw22_Ref.l3 k a0 0 []
def steeplelaw22_Ref.sig (k : Nat) : Sig E.toTys := ⟨[.slice (.st 8)], [(true, .slice (.st 10))], none, fun x => f k x.1⟩
noncomputable def steeplelaw22_Ref.body : Code := Try.f52.body.getD .skip
def steeplelaw22_Ref.calls (k : Nat) : List (Nat × Sig E.toTys) := []
def steeplelaw22_Ref.cuts : List (Cut E (RT E.toTys [(true, .slice (.st 10))])) := [⟨true, 3, ⟨cat [.one (.val (.slice (.st 8)))] (cat (ds 2) (cat [.one (.ref 0), .one (.val (.int .i64))] (ds 31))), [.arr (.st 10)], false⟩, fun k x => steeplelaw22_Ref.l3 k x.1.1 x.1.2.1 x.2.1⟩]
theorem steeplelaw22_Ref.ok (k : Nat) : Okf (XR E) Try.prog 52 (steeplelaw22_Ref.sig k) := ⟨fn_ok (C := fun k => tab.ctx fun f => lk f (steeplelaw22_Ref.calls k)) (fun k => tie _) k (fun j hj => calls_ok (kn)) 400 Try.func52 (body := steeplelaw22_Ref.body) (res := [.tmp 2]) rfl (by kernel_rfl) steeplelaw22_Ref.cuts (kc ⟨by kernel_rfl, rfl, fun _ => rfl, fun _ _ => by kernel_rfl⟩ (kn)) (fun x => by kernel_rfl), _, Try.func52, by kernel_rfl, by kernel_rfl⟩
/-! ### steeple/steepleref22.Total: function 51 -/
mutual
def steepleref22_Total.l7 : Nat → Int → List S111 → Int → Int → Int → Int → Int → Int → Int → Option (S51 × Int)
  | 0, _, _, _, _, _, _, _, _, _ => none
  | k + 1, x0, x1, x2, x3, x4, x5, x6, x7, x8 => if x2 < (x1.length : Int) then (if 0 ≤ x2 then (if x2 < (x1.length : Int) then ((steepleref01_Of.f k x0 (rd111 x1 x2).f3).bind fun r1 => if (!r1) = true then some ((⟨x7, x8⟩ : S51), 5) else steepleref22_Total.l7 k x0 x1 (wrap64 (x2 + 1)) x3 x4 x5 x6 x7 x8) else none) else none) else steepleref22_Total.l12 k x1 (wrap64 ((x1.length : Int) - 1)) x3 x4 x5 x6 x7 x8
def steepleref22_Total.l12 : Nat → List S111 → Int → Int → Int → Int → Int → Int → Int → Option (S51 × Int)
  | 0, _, _, _, _, _, _, _, _ => none
  | k + 1, x0, x1, x2, x3, x4, x5, x6, x7 => if x1 ≥ 0 then ((steepleref02_Product.f k (⟨x6, x7⟩ : S51) (⟨x2, x3⟩ : S51)).bind fun r2 => if 0 ≤ x1 then (if x1 < (x0.length : Int) then ((steepleref02_Add.f k r2 (rd111 x0 x1).f3).bind fun r3 => steepleref22_Total.l12 k x0 (wrap64 (x1 - 1)) x2 x3 x4 x5 r3.f0 r3.f1) else none) else none) else some ((⟨x6, x7⟩ : S51), 0)
end
def steepleref22_Total.f (k : Nat) (a0 : Int) (a1 : List S111) (a2 : S51) : Option (S51 × Int) := if a0 < 0 then some ((⟨0, 0⟩ : S51), 1) else if a0 > 7 then some ((⟨0, 0⟩ : S51), 1) else (steepleref01_Of.f k a0 a2).bind fun r0 => if (!r0) = true then some ((⟨0, 0⟩ : S51), 5) else steepleref22_Total.l7 k a0 a1 0 a2.f0 a2.f1 0 0 0 0
def steepleref22_Total.sig (k : Nat) : Sig E.toTys := ⟨[.int .i64, .slice (.st 10), .st 4], [(false, .st 4), (false, .int .i64)], none, fun x => f k x.1 x.2.1 x.2.2.1⟩
noncomputable def steepleref22_Total.body : Code := Try.f51.body.getD .skip
def steepleref22_Total.calls (k : Nat) : List (Nat × Sig E.toTys) := [(56, steepleref01_Of.sig k), (89, steepleref02_Product.sig k), (88, steepleref02_Add.sig k)]
def steepleref22_Total.cuts : List (Cut E (RT E.toTys [(false, .st 4), (false, .int .i64)])) := [⟨true, 7, ⟨cat [.one (.val (.int .i64)), .one (.val (.slice (.st 10)))] (cat (ds 3) (cat [.one (.ptr 0 0), .one (.ptr 1 0)] (cat (ds 1) (cat [.one (.ptr 2 0), .one (.val (.int .i64))] (ds 45))))), [.var [.val (.int .u64), .val (.int .u64)], .var [.val (.int .u64), .val (.int .u64)], .var [.val (.int .u64), .val (.int .u64)]], false⟩, fun k x => steepleref22_Total.l7 k x.1.1 x.1.2.1 x.1.2.2.1 x.2.1.1 x.2.1.2.1 x.2.2.1.1 x.2.2.1.2.1 x.2.2.2.1.1 x.2.2.2.1.2.1⟩,
  ⟨true, 12, ⟨cat (ds 1) (cat [.one (.val (.slice (.st 10)))] (cat (ds 3) (cat [.one (.ptr 0 0), .one (.ptr 1 0)] (cat (ds 1) (cat [.one (.ptr 2 0)] (cat (ds 1) (cat [.one (.val (.int .i64))] (ds 44)))))))), [.var [.val (.int .u64), .val (.int .u64)], .var [.val (.int .u64), .val (.int .u64)], .var [.val (.int .u64), .val (.int .u64)]], false⟩, fun k x => steepleref22_Total.l12 k x.1.1 x.1.2.1 x.2.1.1 x.2.1.2.1 x.2.2.1.1 x.2.2.1.2.1 x.2.2.2.1.1 x.2.2.2.1.2.1⟩]
theorem steepleref22_Total.ok (k : Nat) : Okf (XR E) Try.prog 51 (steepleref22_Total.sig k) := ⟨fn_ok (C := fun k => tab.ctx fun f => lk f (steepleref22_Total.calls k)) (fun k => tie _) k (fun j hj => calls_ok (kc (steepleref01_Of.ok j) (kc (steepleref02_Product.ok j) (kc (steepleref02_Add.ok j) (kn))))) 400 Try.func51 (body := steepleref22_Total.body) (res := [.cell 6 51, .tmp 7]) rfl (by kernel_rfl) steepleref22_Total.cuts (kc ⟨by kernel_rfl, rfl, fun _ => rfl, fun _ _ => by kernel_rfl⟩ (kc ⟨by kernel_rfl, rfl, fun _ => rfl, fun _ _ => by kernel_rfl⟩ (kn))) (fun x => by kernel_rfl), _, Try.func51, by kernel_rfl, by kernel_rfl⟩
/-! ### steeple/steepleref22.Check: function 54 -/
mutual
def steepleref22_Check.j2 : Nat → Option Int
  | 0 => none
  | k + 1 => some 1
def steepleref22_Check.l6 : Nat → Int → Int → List S111 → Int → Option Int
  | 0, _, _, _, _ => none
  | k + 1, x0, x1, x2, x3 => if x3 < (x2.length : Int) then (if 0 ≤ x3 then (if x3 < (x2.length : Int) then (if (rd111 x2 x3).f0 < 0 then some 4 else if 0 ≤ x3 then (if x3 < (x2.length : Int) then ((steepleref15_Two.f k x0).bind fun r0 => if (rd111 x2 x3).f0 ≥ r0 then some 4 else if 0 ≤ x3 then (if x3 < (x2.length : Int) then (if 0 ≤ x3 then (if x3 < (x2.length : Int) then ((steepleref18_Fits.f k (rd111 x2 x3).f1 x1 (rd111 x2 x3).f2).bind fun r1 => if (!r1) = true then some 1 else steepleref22_Check.l6 k x0 x1 x2 (wrap64 (x3 + 1))) else none) else none) else none) else none) else none) else none) else none) else none) else some 0
end
def steepleref22_Check.f (k : Nat) (a0 : Int) (a1 : Int) (a2 : List S111) : Option Int := if a0 < 0 then steepleref22_Check.j2 k else if a0 > 6 then steepleref22_Check.j2 k else if a1 < 0 then steepleref22_Check.j2 k else if a1 > 6 then steepleref22_Check.j2 k else if (a2.length : Int) > 200 then some 2 else steepleref22_Check.l6 k a0 a1 a2 0
def steepleref22_Check.sig (k : Nat) : Sig E.toTys := ⟨[.int .i64, .int .i64, .slice (.st 10)], [(false, .int .i64)], none, fun x => f k x.1 x.2.1 x.2.2.1⟩
noncomputable def steepleref22_Check.body : Code := Try.f54.body.getD .skip
def steepleref22_Check.calls (k : Nat) : List (Nat × Sig E.toTys) := [(57, steepleref15_Two.sig k), (15, steepleref18_Fits.sig k)]
def steepleref22_Check.cuts : List (Cut E (RT E.toTys [(false, .int .i64)])) := [⟨false, 2, ⟨ds 60, [], false⟩, fun k x => steepleref22_Check.j2 k⟩,
  ⟨true, 6, ⟨cat [.one (.val (.int .i64)), .one (.val (.int .i64)), .one (.val (.slice (.st 10)))] (cat (ds 4) (cat [.one (.val (.int .i64))] (ds 52))), [], false⟩, fun k x => steepleref22_Check.l6 k x.1.1 x.1.2.1 x.1.2.2.1 x.1.2.2.2.1⟩]
theorem steepleref22_Check.ok (k : Nat) : Okf (XR E) Try.prog 54 (steepleref22_Check.sig k) := ⟨fn_ok (C := fun k => tab.ctx fun f => lk f (steepleref22_Check.calls k)) (fun k => tie _) k (fun j hj => calls_ok (kc (steepleref15_Two.ok j) (kc (steepleref18_Fits.ok j) (kn)))) 400 Try.func54 (body := steepleref22_Check.body) (res := [.tmp 6]) rfl (by kernel_rfl) steepleref22_Check.cuts (kc ⟨by kernel_rfl, rfl, fun _ => rfl, fun _ _ => by kernel_rfl⟩ (kc ⟨by kernel_rfl, rfl, fun _ => rfl, fun _ _ => by kernel_rfl⟩ (kn))) (fun x => by kernel_rfl), _, Try.func54, by kernel_rfl, by kernel_rfl⟩
/-! ### steeple/steeplelaw22.ClaimTotals: function 8 -/
def steeplelaw22_ClaimTotals.f (k : Nat) (a0 : Int) (a1 : S89) : Option Bool := (steeplelaw22_Few.f k a1).bind fun r0 => if (!r0) = true then ((steeplelaw22_awake.f k).bind fun r1 => some r1) else (claim_Total.f k a0 a1.f2 a1.f4).bind fun r2 => (steeplelaw22_Ref.f k a1.f2).bind fun r3 => (steepleref22_Total.f k a0 r3 (⟨a1.f4.f0, a1.f4.f1⟩ : S51)).bind fun r4 => (steeplelaw22_awake.f k).bind fun r5 => if r5 = true then (if r2.1.f0 = r4.1.f0 ∧ r2.1.f1 = r4.1.f1 then (if r2.2 = r4.2 then ((claim_Check.f k a1.f0 a1.f1 a1.f2).bind fun r6 => (steeplelaw22_Ref.f k a1.f2).bind fun r7 => (steepleref22_Check.f k a1.f0 a1.f1 r7).bind fun r8 => some (decide (r6 = r8))) else some false) else some false) else some false
def steeplelaw22_ClaimTotals.sig (k : Nat) : Sig E.toTys := ⟨[.int .i64, .st 9], [(false, .bool)], none, fun x => f k x.1 x.2.1⟩
noncomputable def steeplelaw22_ClaimTotals.body : Code := Try.f8.body.getD .skip
def steeplelaw22_ClaimTotals.calls (k : Nat) : List (Nat × Sig E.toTys) := [(48, steeplelaw22_Few.sig k), (49, steeplelaw22_awake.sig k), (50, claim_Total.sig k), (52, steeplelaw22_Ref.sig k), (51, steepleref22_Total.sig k), (53, claim_Check.sig k), (54, steepleref22_Check.sig k)]
def steeplelaw22_ClaimTotals.cuts : List (Cut E (RT E.toTys [(false, .bool)])) := []
theorem steeplelaw22_ClaimTotals.ok (k : Nat) : Okf (XR E) Try.prog 8 (steeplelaw22_ClaimTotals.sig k) := ⟨fn_ok (C := fun k => tab.ctx fun f => lk f (steeplelaw22_ClaimTotals.calls k)) (fun k => tie _) k (fun j hj => calls_ok (kc (steeplelaw22_Few.ok j) (kc (steeplelaw22_awake.ok j) (kc (claim_Total.ok j) (kc (steeplelaw22_Ref.ok j) (kc (steepleref22_Total.ok j) (kc (claim_Check.ok j) (kc (steepleref22_Check.ok j) (kn))))))))) 400 Try.func8 (body := steeplelaw22_ClaimTotals.body) (res := [.tmp 4]) rfl (by kernel_rfl) steeplelaw22_ClaimTotals.cuts (kn) (fun x => by kernel_rfl), _, Try.func8, by kernel_rfl, by kernel_rfl⟩
/-! ### steeple/steeplelaw22.ClaimCounts: function 9 -/
mutual
def steeplelaw22_ClaimCounts.j2 : Nat → Option Bool
  | 0 => none
  | k + 1 => (steeplelaw22_awake.f k).bind fun r2 => some r2
def steeplelaw22_ClaimCounts.l6 : Nat → Int → List S102 → List S38 → Bool → Int → List S102 → Option Bool
  | 0, _, _, _, _, _, _ => none
  | k + 1, x0, x1, x2, x3, x4, x5 => if x4 < (x1.length : Int) then (if 0 ≤ x4 then (if x4 < (x1.length : Int) then ((steepleref01_Of.f k x0 (⟨(rd102 x1 x4).f3.f0, (rd102 x1 x4).f3.f1⟩ : S51)).bind fun r3 => if (!r3) = true then ((steeplelaw22_awake.f k).bind fun r4 => some r4) else if x3 = true then (if 0 ≤ x4 then (if x4 < (x1.length : Int) then (if 0 ≤ x4 then (if x4 < (x2.length : Int) then steeplelaw22_ClaimCounts.j11 k x0 x1 x2 (decide ((rd102 x1 x4).f3.f0 = (rd38 x2 x4).f0 ∧ (rd102 x1 x4).f3.f1 = (rd38 x2 x4).f1)) x4 x5 else none) else none) else none) else none) else steeplelaw22_ClaimCounts.j11 k x0 x1 x2 false x4 x5) else none) else none) else if 0 ≤ x0 then (if x0 < ([2, 4, 16].length : Int) then steeplelaw22_ClaimCounts.l17 k x0 x1 x3 (rdI [2, 4, 16] x0) 0 0 x5 else none) else none
def steeplelaw22_ClaimCounts.j11 : Nat → Int → List S102 → List S38 → Bool → Int → List S102 → Option Bool
  | 0, _, _, _, _, _, _ => none
  | k + 1, x0, x1, x2, x3, x4, x5 => if 0 ≤ x4 then (if x4 < (x1.length : Int) then (if 0 ≤ x4 then (if x4 < (x2.length : Int) then (if x5.length + [(⟨(rd102 x1 x4).f0, (rd102 x1 x4).f1, (rd102 x1 x4).f2, rd38 x2 x4⟩ : S102)].length ≤ 140737488355328 / 40 then steeplelaw22_ClaimCounts.j7 k x0 x1 x2 x3 x4 (x5 ++ [(⟨(rd102 x1 x4).f0, (rd102 x1 x4).f1, (rd102 x1 x4).f2, rd38 x2 x4⟩ : S102)]) else none) else none) else none) else none) else none
def steeplelaw22_ClaimCounts.l17 : Nat → Int → List S102 → Bool → Int → Int → Int → List S102 → Option Bool
  | 0, _, _, _, _, _, _, _ => none
  | k + 1, x0, x1, x2, x3, x4, x5, x6 => if x5 < x3 then ((claim_Total.f k x0 x1 (⟨0, IntKind.u64.wrap x5⟩ : S38)).bind fun r5 => (claim_Total.f k x0 x6 (⟨0, IntKind.u64.wrap x5⟩ : S38)).bind fun r6 => if r5.2 = 0 then (if r6.2 = 0 then (if r5.1.f0 = r6.1.f0 ∧ r5.1.f1 = r6.1.f1 then steeplelaw22_ClaimCounts.l17 k x0 x1 x2 x3 (wrap64 (x4 + 1)) (wrap64 (x5 + 1)) x6 else steeplelaw22_ClaimCounts.l17 k x0 x1 x2 x3 x4 (wrap64 (x5 + 1)) x6) else some false) else some false) else if x2 = true then ((steeplelaw22_awake.f k).bind fun r7 => if r7 = true then some (decide (x4 = x3)) else some false) else (steeplelaw22_awake.f k).bind fun r8 => if r8 = true then some (decide (x4 ≤ wrap64 ((x1.length : Int) - 1))) else some false
def steeplelaw22_ClaimCounts.j7 : Nat → Int → List S102 → List S38 → Bool → Int → List S102 → Option Bool
  | 0, _, _, _, _, _, _ => none
  | k + 1, x0, x1, x2, x3, x4, x5 => steeplelaw22_ClaimCounts.l6 k x0 x1 x2 x3 (wrap64 (x4 + 1)) x5
end
def steeplelaw22_ClaimCounts.f (k : Nat) (a0 : Int) (a1 : List S102) (a2 : List S38) : Option Bool := if a0 < 0 then steeplelaw22_ClaimCounts.j2 k else if a0 > 2 then steeplelaw22_ClaimCounts.j2 k else if (a1.length : Int) > 12 then steeplelaw22_ClaimCounts.j2 k else if (a1.length : Int) = (a2.length : Int) then ((steeplelaw01_Ref.f k a2).bind fun r0 => (steepleref06_All.f k a0 r0).bind fun r1 => if (!r1) = true then steeplelaw22_ClaimCounts.j2 k else steeplelaw22_ClaimCounts.l6 k a0 a1 a2 true 0 []) else steeplelaw22_ClaimCounts.j2 k
def steeplelaw22_ClaimCounts.sig (k : Nat) : Sig E.toTys := ⟨[.int .i64, .slice (.st 8), .slice (.st 1)], [(false, .bool)], none, fun x => f k x.1 x.2.1 x.2.2.1⟩
noncomputable def steeplelaw22_ClaimCounts.body : Code := Try.f9.body.getD .skip
def steeplelaw22_ClaimCounts.calls (k : Nat) : List (Nat × Sig E.toTys) := [(25, steeplelaw01_Ref.sig k), (55, steepleref06_All.sig k), (49, steeplelaw22_awake.sig k), (56, steepleref01_Of.sig k), (50, claim_Total.sig k)]
def steeplelaw22_ClaimCounts.cuts : List (Cut E (RT E.toTys [(false, .bool)])) := [⟨false, 2, ⟨ds 138, [], false⟩, fun k x => steeplelaw22_ClaimCounts.j2 k⟩,
  ⟨true, 6, ⟨cat [.one (.val (.int .i64)), .one (.val (.slice (.st 8))), .one (.val (.slice (.st 1)))] (cat (ds 4) (cat [.one (.val (.bool)), .one (.ref 0), .one (.val (.int .i64))] (ds 128))), [.arr (.st 8)], false⟩, fun k x => steeplelaw22_ClaimCounts.l6 k x.1.1 x.1.2.1 x.1.2.2.1 x.1.2.2.2.1 x.1.2.2.2.2.1 x.2.1⟩,
  ⟨false, 11, ⟨cat [.one (.val (.int .i64)), .one (.val (.slice (.st 8))), .one (.val (.slice (.st 1)))] (cat (ds 4) (cat [.one (.val (.bool)), .one (.ref 0), .one (.val (.int .i64))] (ds 128))), [.arr (.st 8)], false⟩, fun k x => steeplelaw22_ClaimCounts.j11 k x.1.1 x.1.2.1 x.1.2.2.1 x.1.2.2.2.1 x.1.2.2.2.2.1 x.2.1⟩,
  ⟨true, 17, ⟨cat [.one (.val (.int .i64)), .one (.val (.slice (.st 8)))] (cat (ds 5) (cat [.one (.val (.bool)), .one (.ref 0)] (cat (ds 2) (cat [.one (.val (.int .i64)), .one (.val (.int .i64)), .one (.val (.int .i64))] (ds 124))))), [.arr (.st 8)], false⟩, fun k x => steeplelaw22_ClaimCounts.l17 k x.1.1 x.1.2.1 x.1.2.2.1 x.1.2.2.2.1 x.1.2.2.2.2.1 x.1.2.2.2.2.2.1 x.2.1⟩,
  ⟨false, 7, ⟨cat [.one (.val (.int .i64)), .one (.val (.slice (.st 8))), .one (.val (.slice (.st 1)))] (cat (ds 4) (cat [.one (.val (.bool)), .one (.ref 0), .one (.val (.int .i64))] (ds 128))), [.arr (.st 8)], false⟩, fun k x => steeplelaw22_ClaimCounts.j7 k x.1.1 x.1.2.1 x.1.2.2.1 x.1.2.2.2.1 x.1.2.2.2.2.1 x.2.1⟩]
theorem steeplelaw22_ClaimCounts.ok (k : Nat) : Okf (XR E) Try.prog 9 (steeplelaw22_ClaimCounts.sig k) := ⟨fn_ok (C := fun k => tab.ctx fun f => lk f (steeplelaw22_ClaimCounts.calls k)) (fun k => tie _) k (fun j hj => calls_ok (kc (steeplelaw01_Ref.ok j) (kc (steepleref06_All.ok j) (kc (steeplelaw22_awake.ok j) (kc (steepleref01_Of.ok j) (kc (claim_Total.ok j) (kn))))))) 400 Try.func9 (body := steeplelaw22_ClaimCounts.body) (res := [.tmp 6]) rfl (by kernel_rfl) steeplelaw22_ClaimCounts.cuts (kc ⟨by kernel_rfl, rfl, fun _ => rfl, fun _ _ => by kernel_rfl⟩ (kc ⟨by kernel_rfl, rfl, fun _ => rfl, fun _ _ => by kernel_rfl⟩ (kc ⟨by kernel_rfl, rfl, fun _ => rfl, fun _ _ => by kernel_rfl⟩ (kc ⟨by kernel_rfl, rfl, fun _ => rfl, fun _ _ => by kernel_rfl⟩ (kc ⟨by kernel_rfl, rfl, fun _ => rfl, fun _ _ => by kernel_rfl⟩ (kn)))))) (fun x => by kernel_rfl), _, Try.func9, by kernel_rfl, by kernel_rfl⟩
/-! ### steeple/cube.Corner: function 59 -/
mutual
def cube_Corner.j2 : Nat → Option (List S38)
  | 0 => none
  | k + 1 => some []
def cube_Corner.l5 : Nat → Int → Int → Int → List S38 → Option (List S38)
  | 0, _, _, _, _ => none
  | k + 1, x0, x1, x2, x3 => if x2 < x1 then (if 0 ≤ x2 then (if x3.length + [(⟨0, IntKind.u64.wrap (bits .and .i64 (shr .i64 x0 x2) 1)⟩ : S38)].length ≤ 140737488355328 / 16 then cube_Corner.l5 k x0 x1 (wrap64 (x2 + 1)) (x3 ++ [(⟨0, IntKind.u64.wrap (bits .and .i64 (shr .i64 x0 x2) 1)⟩ : S38)]) else none) else none) else some x3
end
def cube_Corner.f (k : Nat) (a0 : Int) (a1 : Int) : Option (List S38) := if a0 < 1 then cube_Corner.j2 k else if a0 > 16 then cube_Corner.j2 k else if a1 < 0 then cube_Corner.j2 k else if 0 ≤ a0 then (if a1 ≥ shl .i64 1 a0 then cube_Corner.j2 k else cube_Corner.l5 k a1 a0 0 []) else none
def cube_Corner.sig (k : Nat) : Sig E.toTys := ⟨[.int .i64, .int .i64], [(true, .slice (.st 1))], none, fun x => f k x.1 x.2.1⟩
noncomputable def cube_Corner.body : Code := Try.f59.body.getD .skip
def cube_Corner.calls (k : Nat) : List (Nat × Sig E.toTys) := []
def cube_Corner.cuts : List (Cut E (RT E.toTys [(true, .slice (.st 1))])) := [⟨false, 2, ⟨ds 38, [], false⟩, fun k x => cube_Corner.j2 k⟩,
  ⟨true, 5, ⟨cat (ds 1) (cat [.one (.val (.int .i64))] (cat (ds 3) (cat [.one (.ref 0)] (cat (ds 17) (cat [.one (.val (.int .i64)), .one (.val (.int .i64))] (ds 13)))))), [.arr (.st 1)], false⟩, fun k x => cube_Corner.l5 k x.1.1 x.1.2.1 x.1.2.2.1 x.2.1⟩]
theorem cube_Corner.ok (k : Nat) : Okf (XR E) Try.prog 59 (cube_Corner.sig k) := ⟨fn_ok (C := fun k => tab.ctx fun f => lk f (cube_Corner.calls k)) (fun k => tie _) k (fun j hj => calls_ok (kn)) 400 Try.func59 (body := cube_Corner.body) (res := [.tmp 4]) rfl (by kernel_rfl) cube_Corner.cuts (kc ⟨by kernel_rfl, rfl, fun _ => rfl, fun _ _ => by kernel_rfl⟩ (kc ⟨by kernel_rfl, rfl, fun _ => rfl, fun _ _ => by kernel_rfl⟩ (kn))) (fun x => by kernel_rfl), _, Try.func59, by kernel_rfl, by kernel_rfl⟩
/-! ### steeple/claim.True: function 58 -/
def claim_True.l10 : Nat → Int → Int → List S38 → List S38 → List S102 → Int → Int → List S38 → Option ((List S38) × Int)
  | 0, _, _, _, _, _, _, _, _ => none
  | k + 1, x0, x1, x2, x3, x4, x5, x6, x7 => if x6 < x5 then (if 0 ≤ x6 then (if x6 < (x4.length : Int) then ((turn_Row.f k x0 (rd102 x4 x6).f1 x1 (rd102 x4 x6).f2 x2).bind fun r2 => if 0 ≤ x1 then (if 0 ≤ x1 then (if 0 ≤ shl .i64 (rd102 x4 x6).f0 x1 then (if shl .i64 (rd102 x4 x6).f0 x1 ≤ shl .i64 (wrap64 ((rd102 x4 x6).f0 + 1)) x1 then (if shl .i64 (wrap64 ((rd102 x4 x6).f0 + 1)) x1 ≤ (x3.length : Int) then ((tower_Dot.f k x0 r2.1 ((x3.take (Int.toNat (shl .i64 (wrap64 ((rd102 x4 x6).f0 + 1)) x1))).drop (Int.toNat (shl .i64 (rd102 x4 x6).f0 x1)))).bind fun r3 => if x7.length + [r3].length ≤ 140737488355328 / 16 then claim_True.l10 k x0 x1 x2 x3 x4 x5 (wrap64 (x6 + 1)) (x7 ++ [r3]) else none) else none) else none) else none) else none) else none) else none) else none) else some (x7, 0)
def claim_True.f (k : Nat) (a0 : Int) (a1 : Int) (a2 : Int) (a3 : List S102) (a4 : List S38) (a5 : List S38) : Option ((List S38) × Int) := (claim_ask.f k a0 a1 a2 a3 a4 []).bind fun r0 => if r0 = 0 then (if 0 ≤ wrap64 (a2 + a1) then (if (a5.length : Int) = shl .i64 1 (wrap64 (a2 + a1)) then ((claim_of.f k a0 a5).bind fun r1 => if (!r1) = true then some ([], 5) else claim_True.l10 k a0 a2 a4 a5 a3 (a3.length : Int) 0 []) else some ([], 6)) else none) else some ([], r0)
def claim_True.sig (k : Nat) : Sig E.toTys := ⟨[.int .i64, .int .i64, .int .i64, .slice (.st 8), .slice (.st 1), .slice (.st 1)], [(true, .slice (.st 1)), (false, .int .i64)], none, fun x => f k x.1 x.2.1 x.2.2.1 x.2.2.2.1 x.2.2.2.2.1 x.2.2.2.2.2.1⟩
noncomputable def claim_True.body : Code := Try.f58.body.getD .skip
def claim_True.calls (k : Nat) : List (Nat × Sig E.toTys) := [(109, claim_ask.sig k), (110, claim_of.sig k), (18, turn_Row.sig k), (21, tower_Dot.sig k)]
def claim_True.cuts : List (Cut E (RT E.toTys [(true, .slice (.st 1)), (false, .int .i64)])) := [⟨true, 10, ⟨cat [.one (.val (.int .i64))] (cat (ds 1) (cat [.one (.val (.int .i64))] (cat (ds 1) (cat [.one (.val (.slice (.st 1))), .one (.val (.slice (.st 1)))] (cat (ds 9) (cat [.one (.ref 0)] (cat (ds 27) (cat [.one (.val (.slice (.st 8))), .one (.val (.int .i64)), .one (.val (.int .i64))] (ds 33))))))))), [.arr (.st 1)], false⟩, fun k x => claim_True.l10 k x.1.1 x.1.2.1 x.1.2.2.1 x.1.2.2.2.1 x.1.2.2.2.2.1 x.1.2.2.2.2.2.1 x.1.2.2.2.2.2.2.1 x.2.1⟩]
theorem claim_True.ok (k : Nat) : Okf (XR E) Try.prog 58 (claim_True.sig k) := ⟨fn_ok (C := fun k => tab.ctx fun f => lk f (claim_True.calls k)) (fun k => tie _) k (fun j hj => calls_ok (kc (claim_ask.ok j) (kc (claim_of.ok j) (kc (turn_Row.ok j) (kc (tower_Dot.ok j) (kn)))))) 400 Try.func58 (body := claim_True.body) (res := [.tmp 12, .tmp 13]) rfl (by kernel_rfl) claim_True.cuts (kc ⟨by kernel_rfl, rfl, fun _ => rfl, fun _ _ => by kernel_rfl⟩ (kn)) (fun x => by kernel_rfl), _, Try.func58, by kernel_rfl, by kernel_rfl⟩
/-! ### steeple/steeplelaw22.ClaimCorners: function 10 -/
mutual
def steeplelaw22_ClaimCorners.j2 : Nat → Option Bool
  | 0 => none
  | k + 1 => (steeplelaw22_awake.f k).bind fun r1 => some r1
def steeplelaw22_ClaimCorners.l7 : Nat → Int → List S38 → Int → Int → Int → Int → Int → List S102 → List S38 → Int → Int → List S102 → Option Bool
  | 0, _, _, _, _, _, _, _, _, _, _, _, _ => none
  | k + 1, x0, x1, x2, x3, x4, x5, x6, x7, x8, x9, x10, x11 => (steepleref15_Two.f k x5).bind fun r2 => if x4 < r2 then (if x11.length + [(⟨x4, 0, 0, (⟨0, 0⟩ : S38)⟩ : S102)].length ≤ 140737488355328 / 40 then steeplelaw22_ClaimCorners.l7 k x0 x1 x2 x3 (wrap64 (x4 + 1)) x5 x6 x7 x8 x9 x10 (x11 ++ [(⟨x4, 0, 0, (⟨0, 0⟩ : S38)⟩ : S102)]) else none) else (cube_Corner.f k x6 x3).bind fun r3 => (claim_True.f k x0 x5 x6 x11 r3 x1).bind fun r4 => if r4.2 = 0 then steeplelaw22_ClaimCorners.l14 k x1 x2 x3 0 x11 r4.1 else (steeplelaw22_awake.f k).bind fun r5 => some r5
def steeplelaw22_ClaimCorners.l14 : Nat → List S38 → Int → Int → Int → List S102 → List S38 → Option Bool
  | 0, _, _, _, _, _, _ => none
  | k + 1, x0, x1, x2, x3, x4, x5 => if x3 < (x4.length : Int) then (if x3 ≥ (x5.length : Int) then some false else if 0 ≤ x3 then (if x3 < (x5.length : Int) then (if 0 ≤ wrap64 ((wrap64 (x1 * x3)) + x2) then (if wrap64 ((wrap64 (x1 * x3)) + x2) < (x0.length : Int) then (if (rd38 x5 x3).f0 = (rd38 x0 (wrap64 ((wrap64 (x1 * x3)) + x2))).f0 ∧ (rd38 x5 x3).f1 = (rd38 x0 (wrap64 ((wrap64 (x1 * x3)) + x2))).f1 then steeplelaw22_ClaimCorners.l14 k x0 x1 x2 (wrap64 (x3 + 1)) x4 x5 else some false) else none) else none) else none) else none) else (steeplelaw22_awake.f k).bind fun r6 => some r6
end
def steeplelaw22_ClaimCorners.f (k : Nat) (a0 : Int) (a1 : S89) (a2 : List S38) : Option Bool := if a1.f0 < 0 then steeplelaw22_ClaimCorners.j2 k else if a1.f0 > 2 then steeplelaw22_ClaimCorners.j2 k else if a1.f1 < 1 then steeplelaw22_ClaimCorners.j2 k else if a1.f1 > 3 then steeplelaw22_ClaimCorners.j2 k else if (a2.length : Int) > 40 then steeplelaw22_ClaimCorners.j2 k else (steepleref15_Two.f k a1.f1).bind fun r0 => if IntKind.u64.wrap r0 = 0 then none else steeplelaw22_ClaimCorners.l7 k a0 a2 r0 (wrap64 (Int.tmod a1.f4.f1 (IntKind.u64.wrap r0))) 0 a1.f0 a1.f1 a1.f2 a1.f3 a1.f4.f0 a1.f4.f1 []
def steeplelaw22_ClaimCorners.sig (k : Nat) : Sig E.toTys := ⟨[.int .i64, .st 9, .slice (.st 1)], [(false, .bool)], none, fun x => f k x.1 x.2.1 x.2.2.1⟩
noncomputable def steeplelaw22_ClaimCorners.body : Code := Try.f10.body.getD .skip
def steeplelaw22_ClaimCorners.calls (k : Nat) : List (Nat × Sig E.toTys) := [(57, steepleref15_Two.sig k), (49, steeplelaw22_awake.sig k), (59, cube_Corner.sig k), (58, claim_True.sig k)]
def steeplelaw22_ClaimCorners.cuts : List (Cut E (RT E.toTys [(false, .bool)])) := [⟨false, 2, ⟨ds 104, [], false⟩, fun k x => steeplelaw22_ClaimCorners.j2 k⟩,
  ⟨true, 7, ⟨cat [.one (.val (.int .i64))] (cat (ds 1) (cat [.one (.val (.slice (.st 1)))] (cat (ds 1) (cat [.one (.ptr 0 0)] (cat (ds 2) (cat [.one (.val (.int .i64)), .one (.val (.int .i64)), .one (.ref 1), .one (.val (.int .i64))] (ds 93))))))), [.var [.val (.int .i64), .val (.int .i64), .val (.slice (.st 8)), .val (.slice (.st 1)), .val (.int .u64), .val (.int .u64)], .arr (.st 8)], false⟩, fun k x => steeplelaw22_ClaimCorners.l7 k x.1.1 x.1.2.1 x.1.2.2.1 x.1.2.2.2.1 x.1.2.2.2.2.1 x.2.1.1 x.2.1.2.1 x.2.1.2.2.1 x.2.1.2.2.2.1 x.2.1.2.2.2.2.1 x.2.1.2.2.2.2.2.1 x.2.2.1⟩,
  ⟨true, 14, ⟨cat (ds 2) (cat [.one (.val (.slice (.st 1)))] (cat (ds 4) (cat [.one (.val (.int .i64)), .one (.val (.int .i64)), .one (.ref 0)] (cat (ds 1) (cat [.one (.ref 1)] (cat (ds 1) (cat [.one (.val (.int .i64))] (ds 90)))))))), [.arr (.st 8), .arr (.st 1)], false⟩, fun k x => steeplelaw22_ClaimCorners.l14 k x.1.1 x.1.2.1 x.1.2.2.1 x.1.2.2.2.1 x.2.1 x.2.2.1⟩]
theorem steeplelaw22_ClaimCorners.ok (k : Nat) : Okf (XR E) Try.prog 10 (steeplelaw22_ClaimCorners.sig k) := ⟨fn_ok (C := fun k => tab.ctx fun f => lk f (steeplelaw22_ClaimCorners.calls k)) (fun k => tie _) k (fun j hj => calls_ok (kc (steepleref15_Two.ok j) (kc (steeplelaw22_awake.ok j) (kc (cube_Corner.ok j) (kc (claim_True.ok j) (kn)))))) 400 Try.func10 (body := steeplelaw22_ClaimCorners.body) (res := [.tmp 6]) rfl (by kernel_rfl) steeplelaw22_ClaimCorners.cuts (kc ⟨by kernel_rfl, rfl, fun _ => rfl, fun _ _ => by kernel_rfl⟩ (kc ⟨by kernel_rfl, rfl, fun _ => rfl, fun _ _ => by kernel_rfl⟩ (kc ⟨by kernel_rfl, rfl, fun _ => rfl, fun _ _ => by kernel_rfl⟩ (kn)))) (fun x => by kernel_rfl), _, Try.func10, by kernel_rfl, by kernel_rfl⟩
/-! ### steeple/steepleref22.May: function 60 -/
def steepleref22_May.f (k : Nat) (a0 : Int) (a1 : Int) (a2 : Int) (a3 : List S111) (a4 : List S51) : Option Int := if a0 < 0 then some 1 else if a0 > 7 then some 1 else (steepleref22_Check.f k a1 a2 a3).bind fun r0 => if r0 = 0 then (if (a4.length : Int) = a2 then ((steepleref06_All.f k a0 a4).bind fun r1 => if (!r1) = true then some 5 else some 0) else some 6) else (steepleref22_Check.f k a1 a2 a3).bind fun r2 => some r2
def steepleref22_May.sig (k : Nat) : Sig E.toTys := ⟨[.int .i64, .int .i64, .int .i64, .slice (.st 10), .slice (.st 4)], [(false, .int .i64)], none, fun x => f k x.1 x.2.1 x.2.2.1 x.2.2.2.1 x.2.2.2.2.1⟩
noncomputable def steepleref22_May.body : Code := Try.f60.body.getD .skip
def steepleref22_May.calls (k : Nat) : List (Nat × Sig E.toTys) := [(54, steepleref22_Check.sig k), (55, steepleref06_All.sig k)]
def steepleref22_May.cuts : List (Cut E (RT E.toTys [(false, .int .i64)])) := []
theorem steepleref22_May.ok (k : Nat) : Okf (XR E) Try.prog 60 (steepleref22_May.sig k) := ⟨fn_ok (C := fun k => tab.ctx fun f => lk f (steepleref22_May.calls k)) (fun k => tie _) k (fun j hj => calls_ok (kc (steepleref22_Check.ok j) (kc (steepleref06_All.ok j) (kn)))) 400 Try.func60 (body := steepleref22_May.body) (res := [.tmp 10]) rfl (by kernel_rfl) steepleref22_May.cuts (kn) (fun x => by kernel_rfl), _, Try.func60, by kernel_rfl, by kernel_rfl⟩
/-! ### steeple/steepleref15.Weight: function 114 -/
def steepleref15_Weight.l4 : Nat → List S51 → Int → Int → Int → Int → Int → Int → Option S51
  | 0, _, _, _, _, _, _, _ => none
  | k + 1, x0, x1, x2, x3, x4, x5, x6 => if x2 < (x0.length : Int) then (if Int.tmod x1 2 = 1 then (if 0 ≤ x2 then (if x2 < (x0.length : Int) then ((steepleref02_Product.f k (⟨x5, x6⟩ : S51) (rd51 x0 x2)).bind fun r1 => steepleref15_Weight.l4 k x0 (wrap64 (Int.tdiv x1 2)) (wrap64 (x2 + 1)) x3 x4 r1.f0 r1.f1) else none) else none) else (steepleref15_one.f k).bind fun r2 => if 0 ≤ x2 then (if x2 < (x0.length : Int) then ((steepleref02_Add.f k r2 (rd51 x0 x2)).bind fun r3 => (steepleref02_Product.f k (⟨x5, x6⟩ : S51) r3).bind fun r4 => steepleref15_Weight.l4 k x0 (wrap64 (Int.tdiv x1 2)) (wrap64 (x2 + 1)) x3 x4 r4.f0 r4.f1) else none) else none) else some (⟨x5, x6⟩ : S51)
def steepleref15_Weight.f (k : Nat) (a0 : List S51) (a1 : Int) : Option S51 := (steepleref15_one.f k).bind fun r0 => steepleref15_Weight.l4 k a0 a1 0 0 0 r0.f0 r0.f1
def steepleref15_Weight.sig (k : Nat) : Sig E.toTys := ⟨[.slice (.st 4), .int .i64], [(false, .st 4)], none, fun x => f k x.1 x.2.1⟩
noncomputable def steepleref15_Weight.body : Code := Try.f114.body.getD .skip
def steepleref15_Weight.calls (k : Nat) : List (Nat × Sig E.toTys) := [(90, steepleref15_one.sig k), (89, steepleref02_Product.sig k), (88, steepleref02_Add.sig k)]
def steepleref15_Weight.cuts : List (Cut E (RT E.toTys [(false, .st 4)])) := [⟨true, 4, ⟨cat [.one (.val (.slice (.st 4)))] (cat (ds 3) (cat [.one (.ptr 0 0), .one (.ptr 1 0), .one (.val (.int .i64)), .one (.val (.int .i64))] (ds 28))), [.var [.val (.int .u64), .val (.int .u64)], .var [.val (.int .u64), .val (.int .u64)]], false⟩, fun k x => steepleref15_Weight.l4 k x.1.1 x.1.2.1 x.1.2.2.1 x.2.1.1 x.2.1.2.1 x.2.2.1.1 x.2.2.1.2.1⟩]
theorem steepleref15_Weight.ok (k : Nat) : Okf (XR E) Try.prog 114 (steepleref15_Weight.sig k) := ⟨fn_ok (C := fun k => tab.ctx fun f => lk f (steepleref15_Weight.calls k)) (fun k => tie _) k (fun j hj => calls_ok (kc (steepleref15_one.ok j) (kc (steepleref02_Product.ok j) (kc (steepleref02_Add.ok j) (kn))))) 400 Try.func114 (body := steepleref15_Weight.body) (res := [.cell 4 51]) rfl (by kernel_rfl) steepleref15_Weight.cuts (kc ⟨by kernel_rfl, rfl, fun _ => rfl, fun _ _ => by kernel_rfl⟩ (kn)) (fun x => by kernel_rfl), _, Try.func114, by kernel_rfl, by kernel_rfl⟩
/-! ### steeple/steepleref15.Value: function 65 -/
def steepleref15_Value.l3 : Nat → List S51 → List S51 → Int → Int → Int → Int → Int → Option S51
  | 0, _, _, _, _, _, _, _ => none
  | k + 1, x0, x1, x2, x3, x4, x5, x6 => if x2 < (x0.length : Int) then (if 0 ≤ x2 then (if x2 < (x0.length : Int) then ((steepleref15_Weight.f k x1 x2).bind fun r0 => (steepleref02_Product.f k (rd51 x0 x2) r0).bind fun r1 => (steepleref02_Add.f k (⟨x5, x6⟩ : S51) r1).bind fun r2 => steepleref15_Value.l3 k x0 x1 (wrap64 (x2 + 1)) x3 x4 r2.f0 r2.f1) else none) else none) else some (⟨x5, x6⟩ : S51)
def steepleref15_Value.f (k : Nat) (a0 : List S51) (a1 : List S51) : Option S51 := steepleref15_Value.l3 k a0 a1 0 0 0 0 0
def steepleref15_Value.sig (k : Nat) : Sig E.toTys := ⟨[.slice (.st 4), .slice (.st 4)], [(false, .st 4)], none, fun x => f k x.1 x.2.1⟩
noncomputable def steepleref15_Value.body : Code := Try.f65.body.getD .skip
def steepleref15_Value.calls (k : Nat) : List (Nat × Sig E.toTys) := [(114, steepleref15_Weight.sig k), (89, steepleref02_Product.sig k), (88, steepleref02_Add.sig k)]
def steepleref15_Value.cuts : List (Cut E (RT E.toTys [(false, .st 4)])) := [⟨true, 3, ⟨cat [.one (.val (.slice (.st 4))), .one (.val (.slice (.st 4)))] (cat (ds 2) (cat [.one (.ptr 0 0), .one (.ptr 1 0), .one (.val (.int .i64))] (ds 17))), [.var [.val (.int .u64), .val (.int .u64)], .var [.val (.int .u64), .val (.int .u64)]], false⟩, fun k x => steepleref15_Value.l3 k x.1.1 x.1.2.1 x.1.2.2.1 x.2.1.1 x.2.1.2.1 x.2.2.1.1 x.2.2.1.2.1⟩]
theorem steepleref15_Value.ok (k : Nat) : Okf (XR E) Try.prog 65 (steepleref15_Value.sig k) := ⟨fn_ok (C := fun k => tab.ctx fun f => lk f (steepleref15_Value.calls k)) (fun k => tie _) k (fun j hj => calls_ok (kc (steepleref15_Weight.ok j) (kc (steepleref02_Product.ok j) (kc (steepleref02_Add.ok j) (kn))))) 400 Try.func65 (body := steepleref15_Value.body) (res := [.cell 4 51]) rfl (by kernel_rfl) steepleref15_Value.cuts (kc ⟨by kernel_rfl, rfl, fun _ => rfl, fun _ _ => by kernel_rfl⟩ (kn)) (fun x => by kernel_rfl), _, Try.func65, by kernel_rfl, by kernel_rfl⟩
/-! ### steeple/steepleref18.Was: function 111 -/
def steepleref18_Was.f (k : Nat) (a0 : Int) (a1 : Int) (a2 : Int) (a3 : Int) (a4 : Int) : Option Bool := (steepleref15_Two.f k a1).bind fun r0 => if a0 = 2 then some (decide (a4 = wrap64 (a3 + a2))) else if a0 = 3 then (if r0 = 0 then none else some (decide (Int.tmod (wrap64 (a4 + a2)) r0 = a3))) else some (decide (a3 = wrap64 (a4 + a2)))
def steepleref18_Was.sig (k : Nat) : Sig E.toTys := ⟨[.int .i64, .int .i64, .int .i64, .int .i64, .int .i64], [(false, .bool)], none, fun x => f k x.1 x.2.1 x.2.2.1 x.2.2.2.1 x.2.2.2.2.1⟩
noncomputable def steepleref18_Was.body : Code := Try.f111.body.getD .skip
def steepleref18_Was.calls (k : Nat) : List (Nat × Sig E.toTys) := [(57, steepleref15_Two.sig k)]
def steepleref18_Was.cuts : List (Cut E (RT E.toTys [(false, .bool)])) := []
theorem steepleref18_Was.ok (k : Nat) : Okf (XR E) Try.prog 111 (steepleref18_Was.sig k) := ⟨fn_ok (C := fun k => tab.ctx fun f => lk f (steepleref18_Was.calls k)) (fun k => tie _) k (fun j hj => calls_ok (kc (steepleref15_Two.ok j) (kn))) 400 Try.func111 (body := steepleref18_Was.body) (res := [.tmp 10]) rfl (by kernel_rfl) steepleref18_Was.cuts (kn) (fun x => by kernel_rfl), _, Try.func111, by kernel_rfl, by kernel_rfl⟩
/-! ### steeple/steepleref22.True: function 61 -/
mutual
def steepleref22_True.l4 : Nat → Int → List S51 → List S51 → Int → Int → Int → Int → Int → Int → Int → Int → Int → List S51 → Option S51
  | 0, _, _, _, _, _, _, _, _, _, _, _, _, _ => none
  | k + 1, x0, x1, x2, x3, x4, x5, x6, x7, x8, x9, x10, x11, x12 => if x4 < x3 then steepleref22_True.l8 k x0 x1 x2 x3 x4 0 x5 x6 x7 x8 x9 x10 x11 x12 0 0 else (steepleref15_Value.f k x12 x1).bind fun r1 => some r1
def steepleref22_True.l8 : Nat → Int → List S51 → List S51 → Int → Int → Int → Int → Int → Int → Int → Int → Int → Int → List S51 → Int → Int → Option S51
  | 0, _, _, _, _, _, _, _, _, _, _, _, _, _, _, _, _ => none
  | k + 1, x0, x1, x2, x3, x4, x5, x6, x7, x8, x9, x10, x11, x12, x13, x14, x15 => if x5 < x3 then ((steepleref18_Was.f k x7 x0 x8 x4 x5).bind fun r2 => if r2 = true then (if 0 ≤ wrap64 ((wrap64 (x3 * x6)) + x5) then (if wrap64 ((wrap64 (x3 * x6)) + x5) < (x2.length : Int) then steepleref22_True.l8 k x0 x1 x2 x3 x4 (wrap64 (x5 + 1)) x6 x7 x8 x9 x10 x11 x12 x13 (rd51 x2 (wrap64 ((wrap64 (x3 * x6)) + x5))).f0 (rd51 x2 (wrap64 ((wrap64 (x3 * x6)) + x5))).f1 else none) else none) else steepleref22_True.l8 k x0 x1 x2 x3 x4 (wrap64 (x5 + 1)) x6 x7 x8 x9 x10 x11 x12 x13 x14 x15) else if x13.length + [(⟨x14, x15⟩ : S51)].length ≤ 140737488355328 / 16 then steepleref22_True.l4 k x0 x1 x2 x3 (wrap64 (x4 + 1)) x6 x7 x8 x9 x10 x11 x12 (x13 ++ [(⟨x14, x15⟩ : S51)]) else none
end
def steepleref22_True.f (k : Nat) (a0 : Int) (a1 : S111) (a2 : List S51) (a3 : List S51) : Option S51 := (steepleref15_Two.f k a0).bind fun r0 => steepleref22_True.l4 k a0 a2 a3 r0 0 a1.f0 a1.f1 a1.f2 a1.f3.f0 a1.f3.f1 0 0 []
def steepleref22_True.sig (k : Nat) : Sig E.toTys := ⟨[.int .i64, .st 10, .slice (.st 4), .slice (.st 4)], [(false, .st 4)], none, fun x => f k x.1 x.2.1 x.2.2.1 x.2.2.2.1⟩
noncomputable def steepleref22_True.body : Code := Try.f61.body.getD .skip
def steepleref22_True.calls (k : Nat) : List (Nat × Sig E.toTys) := [(57, steepleref15_Two.sig k), (65, steepleref15_Value.sig k), (111, steepleref18_Was.sig k)]
def steepleref22_True.cuts : List (Cut E (RT E.toTys [(false, .st 4)])) := [⟨true, 4, ⟨cat [.one (.val (.int .i64))] (cat (ds 1) (cat [.one (.val (.slice (.st 4))), .one (.val (.slice (.st 4)))] (cat (ds 1) (cat [.one (.ptr 0 0)] (cat (ds 2) (cat [.one (.ptr 1 0), .one (.val (.int .i64)), .one (.ref 2), .one (.val (.int .i64))] (ds 38))))))), [.var [.val (.int .i64), .val (.int .i64), .val (.int .i64), .val (.int .u64), .val (.int .u64)], .var [.val (.int .u64), .val (.int .u64)], .arr (.st 4)], false⟩, fun k x => steepleref22_True.l4 k x.1.1 x.1.2.1 x.1.2.2.1 x.1.2.2.2.1 x.1.2.2.2.2.1 x.2.1.1 x.2.1.2.1 x.2.1.2.2.1 x.2.1.2.2.2.1 x.2.1.2.2.2.2.1 x.2.2.1.1 x.2.2.1.2.1 x.2.2.2.1⟩,
  ⟨true, 8, ⟨cat [.one (.val (.int .i64))] (cat (ds 1) (cat [.one (.val (.slice (.st 4))), .one (.val (.slice (.st 4)))] (cat (ds 1) (cat [.one (.ptr 0 0)] (cat (ds 2) (cat [.one (.ptr 1 0), .one (.val (.int .i64)), .one (.ref 2), .one (.val (.int .i64)), .one (.ptr 3 0), .one (.val (.int .i64))] (ds 36))))))), [.var [.val (.int .i64), .val (.int .i64), .val (.int .i64), .val (.int .u64), .val (.int .u64)], .var [.val (.int .u64), .val (.int .u64)], .arr (.st 4), .var [.val (.int .u64), .val (.int .u64)]], false⟩, fun k x => steepleref22_True.l8 k x.1.1 x.1.2.1 x.1.2.2.1 x.1.2.2.2.1 x.1.2.2.2.2.1 x.1.2.2.2.2.2.1 x.2.1.1 x.2.1.2.1 x.2.1.2.2.1 x.2.1.2.2.2.1 x.2.1.2.2.2.2.1 x.2.2.1.1 x.2.2.1.2.1 x.2.2.2.1 x.2.2.2.2.1.1 x.2.2.2.2.1.2.1⟩]
theorem steepleref22_True.ok (k : Nat) : Okf (XR E) Try.prog 61 (steepleref22_True.sig k) := ⟨fn_ok (C := fun k => tab.ctx fun f => lk f (steepleref22_True.calls k)) (fun k => tie _) k (fun j hj => calls_ok (kc (steepleref15_Two.ok j) (kc (steepleref15_Value.ok j) (kc (steepleref18_Was.ok j) (kn))))) 400 Try.func61 (body := steepleref22_True.body) (res := [.cell 8 51]) rfl (by kernel_rfl) steepleref22_True.cuts (kc ⟨by kernel_rfl, rfl, fun _ => rfl, fun _ _ => by kernel_rfl⟩ (kc ⟨by kernel_rfl, rfl, fun _ => rfl, fun _ _ => by kernel_rfl⟩ (kn))) (fun x => by kernel_rfl), _, Try.func61, by kernel_rfl, by kernel_rfl⟩
end Go.Proofs.Ytdpbogooceiaaaa.B

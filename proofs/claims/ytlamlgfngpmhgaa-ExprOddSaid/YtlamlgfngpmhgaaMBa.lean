/- Own text: merged by pack2.py. -/
import Derived.Below
import Derived.KernelRfl
import Derived.Laws.BitsLemmas
import Derived.Laws.Sem
import Derived.Laws.AppendOwn
import Derived.Laws.MakeOwn
import Derived.Laws.StructEq
import Derived.Laws.Shifts
import Derived.Laws.Cells
import Derived.Great.BuildSlice
import Derived.Laws.CopyOwn
set_option linter.unusedSimpArgs false
set_option linter.unusedVariables false
namespace Go.Proofs.Ytlamlgfngpmhgaa.V.B
open Go.RowKit
set_option linter.unusedVariables false
/-- Types of data (ext: a function with the variable that it has taken along; fnv: one that has taken none; em: a list without room; any: an interface value). -/
inductive Ty where
  | int (k : IntKind)
  | bool
  | slice (t : Ty)
  | ptr (t : Ty)
  | st (n : Nat)
  | arr (n : Nat) (t : Ty)
  | ext (n : Nat) (t : Ty)
  | fnv (n : Nat)
  | em
  | any
  deriving DecidableEq
structure Tys where
  S : Nat → Type
@[reducible] def den (T : Tys) : Ty → Type
  | .int _ => Int
  | .bool => Bool
  | .slice t => List (den T t)
  | .ptr t => Option (den T t)
  | .st n => T.S n
  | .arr _ t => List (den T t)
  | .ext _ t => den T t
  | .fnv _ => Unit
  | .em => Unit
  | .any => Option (Nat × Value)
@[reducible] def HL (T : Tys) : List Ty → Type
  | [] => Unit
  | t :: ts => den T t × HL T ts
@[reducible] def RT (T : Tys) : List (Bool × Ty) → Type
  | [] => Unit
  | [t] => den T t.2
  | t :: u :: ts => den T t.2 × RT T (u :: ts)
/-- The struct types (by number; their cells, flat). -/
structure Env extends Tys where
  fs : Nat → List Ty
  z : ∀ n, S n
  to : ∀ n, S n → HL toTys (fs n)
  of : ∀ n, HL toTys (fs n) → S n
  of_to : ∀ n x, of n (to n x) = x
  to_of : ∀ n x, to n (of n x) = x
/-- Values of one cell. -/
inductive SV (T : Tys) where
  | val (t : Ty) (x : den T t)
  | tst (p : Prop) (d : Decidable p) (neg : Bool)
  | emp
  | ref (id : Nat)
  | ptr (id off : Nat)
  | elt (id : Nat) (t : Ty) (i : Int) (off : Nat)
  | box (t : Ty) (x : den T t) (off : Nat)
  | nilp
  | fn (f : FuncId)
  | dead
inductive CV (T : Tys) where
  | s (v : SV T)
  | agg (cs : List (SV T))
inductive AV (T : Tys) where
  | c (v : CV T)
  | arr (n : Nat) (t : Ty) (xs : List (den T t))
  | tup (xs : List (CV T))
  | clo (f : FuncId) (caps : List (CV T))
inductive Blk (T : Tys) where
  | free
  | gone
  | var (cs : List (SV T))
  | arr (t : Ty) (xs : List (den T t))
  | avar (n : Nat) (t : Ty) (xs : List (den T t))
structure St (T : Tys) where
  tmps : List (AV T)
  mem : List (Blk T)
/-- What a function takes and answers (a result's mark: its memory is new and its own). With io the argument at that place is written; what it is in the end comes first of the results. With io of 1000 and more the argument at that place less 1000 is used up. -/
structure Sig (T : Tys) where
  ps : List Ty
  rs : List (Bool × Ty)
  io : Option Nat
  f : HL T ps → Option (RT T rs)
def rtHd {T : Tys} {a : Bool × Ty} : {rs : List (Bool × Ty)} → RT T (a :: rs) → den T a.2
  | [], x => x
  | _ :: _, x => x.1
def rtTl {T : Tys} {a : Bool × Ty} : {rs : List (Bool × Ty)} → RT T (a :: rs) → RT T rs
  | [], _ => ()
  | _ :: _, x => x.2
def rtMk {T : Tys} {a : Bool × Ty} : {rs : List (Bool × Ty)} → den T a.2 → RT T rs → RT T (a :: rs)
  | [], x, _ => x
  | _ :: _, x, y => (x, y)
/-- A function that answers a function with variables of its own: the first is written by it, the others are read alone. -/
structure CloSig (T : Tys) where
  ps : List Ty
  n : Nat
  u : Ty
  us : List Ty
  f : HL T ps → Option (den T u × HL T us)
/-- A function whose first argument points to a struct with lists of its own: it takes the struct along, and answers what it is in the end, too. -/
structure BoxSig (E : Env) where
  n : Nat
  ps : List Ty
  rs : List (Bool × Ty)
  f : E.S n → HL E.toTys ps → Option (E.S n × RT E.toTys rs)
structure Ctx (E : Env) where
  ty : Nat → Option Ty
  fld : Nat → Nat → Option (Nat × Nat)
  bytes : Nat → Nat
  eqs : Nat → Nat
  str : Nat → Bool
  calls : Nat → Option (Sig E.toTys)
  pm : Nat → Nat → Nat → Bool
  clos : Nat → Option (CloSig E.toTys)
  boxes : Nat → Option (BoxSig E)
section
variable {T : Tys} {R : Type}
def nth {α : Type} (d : α) : List α → Nat → α
  | [], _ => d
  | x :: _, 0 => x
  | _ :: r, n + 1 => nth d r n
def put1 {α : Type} : List α → Nat → α → List α
  | [], _, _ => []
  | _ :: r, 0, v => v :: r
  | x :: r, n + 1, v => x :: put1 r n v
def conv (a b : Ty) (x : den T a) : Option (den T b) := if h : a = b then some (h ▸ x) else none
def wr (k : IntKind) (x : Int) : Int := match k with
  | .i64 => wrap64 x
  | k => k.wrap x
def shl (k : IntKind) (x y : Int) : Int := k.wrap (x * 2 ^ min y.toNat k.bits)
def shr (k : IntKind) (x y : Int) : Int := x / 2 ^ min y.toNat k.bits
/-- Only if so. (No 'if': the kernel is not to hold it beside those of the texts.) -/
abbrev gd (b : Bool) (x : Option R) : Option R := match b with
  | true => x
  | false => none
theorem gd_if (b : Bool) (x : Option R) : gd b x = if b = true then x else none := by cases b <;> rfl
theorem gd_dec (p : Prop) [Decidable p] (x : Option R) : gd (decide p) x = if p then x else none := by
  rw [gd_if]
  by_cases h : p <;> simp [h]
/-- A branch. -/
def br (v : SV T) (A B : Option R) : Option R := match v with
  | .val .bool b => if b = true then A else B
  | .tst p d false => @ite _ p d A B
  | .tst p d true => @ite _ p d B A
  | _ => none
/-- A bool as one. -/
def asB : SV T → Option Bool
  | .val .bool b => some b
  | .tst p d false => some (@decide p d)
  | .tst p d true => some (!@decide p d)
  | _ => none
def cells (v : CV T) : List (SV T) := match v with
  | .s v => [v]
  | .agg cs => cs
def tk {α : Type} : Nat → List α → List α
  | 0, _ => []
  | _ + 1, [] => []
  | n + 1, x :: r => x :: tk n r
def dr {α : Type} : Nat → List α → List α
  | 0, l => l
  | _ + 1, [] => []
  | n + 1, _ :: r => dr n r
def cat {α : Type} : List α → List α → List α
  | [], m => m
  | x :: r, m => x :: cat r m
def len {α : Type} : List α → Nat
  | [] => 0
  | _ :: r => Nat.succ (len r)
/-- New cells from a place on; none: there is no room. -/
def splice {α : Type} (cs : List α) (off : Nat) (new : List α) : Option (List α) :=
  if Nat.ble (off + len new) (len cs) then some (cat (tk off cs) (cat new (dr (off + len new) cs))) else none
/-- A part of cells. -/
def cut {α : Type} (cs : List α) (off n : Nat) : Option (List α) :=
  if Nat.ble (off + n) (len cs) then some (tk n (dr off cs)) else none
def rep {α : Type} : Nat → α → List α
  | 0, _ => []
  | n + 1, x => x :: rep n x
def mapO {α β : Type} (f : α → Option β) : List α → Option (List β)
  | [] => some []
  | x :: r => match f x, mapO f r with
    | some y, some l => some (y :: l)
    | _, _ => none
end
def dflt (E : Env) : (t : Ty) → den E.toTys t
  | .int _ => (0 : Int)
  | .bool => false
  | .slice _ => []
  | .ptr _ => none
  | .st n => E.z n
  | .arr n t => List.replicate n (dflt E t)
  | .ext _ t => dflt E t
  | .fnv _ => ()
  | .em => ()
  | .any => none
def rdA (E : Env) (t : Ty) (xs : List (den E.toTys t)) (i : Int) : den E.toTys t := xs.getD i.toNat (dflt E t)
def flatL {T : Tys} : (ts : List Ty) → HL T ts → List (SV T)
  | [], _ => []
  | t :: ts, x => .val t x.1 :: flatL ts x.2
section
variable {E : Env} {R : Type}
def flat : (t : Ty) → den E.toTys t → List (SV E.toTys)
  | .st n, x => flatL (E.fs n) (E.to n x)
  | .arr _ _, _ => []
  | t, x => [.val t x]
def sz (E : Env) : Ty → Nat
  | .st n => len (E.fs n)
  | .arr n t => n * sz E t
  | _ => 1
/-- A cell that is zero. -/
def zs {T : Tys} : Ty → Option (SV T)
  | .int k => some (.val (.int k) (0 : Int))
  | .bool => some (.val .bool false)
  | .slice _ => some .emp
  | .ptr _ => some .nilp
  | .any => some (.val .any none)
  | _ => none
def zcells (E : Env) : Ty → Option (List (SV E.toTys))
  | .st n => mapO zs (E.fs n)
  | t => match zs t with | some v => some [v] | none => none
def one (E : Env) (t : Ty) (x : den E.toTys t) : CV E.toTys := match t with
  | .st n => .agg (flatL (E.fs n) (E.to n x))
  | .arr _ _ => .s .dead
  | .em => .s .emp
  | t => .s (.val t x)
def oneA (E : Env) (t : Ty) (x : den E.toTys t) : AV E.toTys := match t with
  | .arr n u => .arr n u x
  | t => .c (one E t x)
/-- As a value of a type (what is the call's own is read). -/
def expS0 (rd : Nat → Blk E.toTys) (t : Ty) (v : SV E.toTys) : Option (den E.toTys t) := match v with
  | .val u x => conv u t x
  | .tst p d n => match t with
    | .bool => asB (.tst (T := E.toTys) p d n)
    | _ => none
  | .emp => match t with
    | .slice _ => some []
    | .em => some ()
    | _ => none
  | .ref id => match t with
    | .slice u => match rd id with
      | .arr u' xs => conv (.slice u') (.slice u) xs
      | _ => none
    | _ => none
  | .box u x off => match t with
    | .ptr u' => match off with
      | 0 => match conv u u' x with | some y => some (some y) | none => none
      | _ => none
    | _ => none
  | .nilp => match t with
    | .ptr _ => some none
    | _ => none
  | .fn f => match t with
    | .fnv n => match Nat.beq f n with
      | true => some ()
      | false => none
    | _ => none
  | _ => none
def expL0 (rd : Nat → Blk E.toTys) : (ts : List Ty) → List (SV E.toTys) → Option (HL E.toTys ts)
  | [], [] => some ()
  | t :: ts, v :: vs => match expS0 rd t v, expL0 rd ts vs with
    | some a, some b => some (a, b)
    | _, _ => none
  | _, _ => none
def expC0 (rd : Nat → Blk E.toTys) (t : Ty) (cs : List (SV E.toTys)) : Option (den E.toTys t) := match t with
  | .st n => match expL0 rd (E.fs n) cs with
    | some h => some (E.of n h)
    | none => none
  | t => match cs with
    | [v] => expS0 rd t v
    | _ => none
/-- .. and pointers to what is the call's own, too. -/
def expS1 (rd : Nat → Blk E.toTys) (t : Ty) (v : SV E.toTys) : Option (den E.toTys t) := match t with
  | .ptr u => match v with
    | .ptr id off => match off, rd id with
      | 0, .var cs => match expC0 rd u cs with | some x => some (some x) | none => none
      | _, _ => none
    | v => expS0 rd (.ptr u) v
  | t => expS0 rd t v
def isArr : Ty → Bool
  | .arr _ _ => true
  | _ => false
def isAg : Ty → Bool
  | .st _ => true
  | .arr _ _ => true
  | _ => false
def expA (rd : Nat → Blk E.toTys) (t : Ty) (v : AV E.toTys) : Option (den E.toTys t) := match v with
  | .c (.agg cs) => match t with
    | .st n => expC0 rd (.st n) cs
    | _ => none
  | .c (.s v) => match isAg t with
    | true => none
    | false => expS1 rd t v
  | .arr n u xs => conv (.arr n u) t xs
  | .clo f cs => match t, cs with
    | .ext n u, [.s v] => match Nat.beq f n, expS1 rd (.ptr u) v with
      | true, some x => x
      | _, _ => none
    | _, _ => none
  | _ => none
def expArgs (rd : Nat → Blk E.toTys) : (ts : List Ty) → List (AV E.toTys) → Option (HL E.toTys ts)
  | [], [] => some ()
  | t :: ts, v :: vs => match expA rd t v, expArgs rd ts vs with
    | some a, some b => some (a, b)
    | _, _ => none
  | _, _ => none
/-- What is handed on for good is nobody's to write any more. -/
def frz : List (SV E.toTys) → List (Nat × Blk E.toTys)
  | [] => []
  | .ref id :: r => (id, .gone) :: frz r
  | _ :: r => frz r
/-- A list that is read. -/
def lst (rd : Nat → Blk E.toTys) (u : Ty) (v : AV E.toTys) : Option (List (den E.toTys u)) := match v with
  | .c (.s .emp) => some []
  | .c (.s (.val t xs)) => conv t (.slice u) xs
  | .c (.s (.ref id)) => match rd id with
    | .arr u' xs => conv (.slice u') (.slice u) xs
    | _ => none
  | _ => none
/-- Results of a call. -/
def imp1 (b : Bool) (t : Ty) (x : den E.toTys t) (slot : Nat) : AV E.toTys × List (Nat × Blk E.toTys) × Nat := match b, t with
  | true, .slice u => (.c (.s (.ref slot)), [(slot, .arr u x)], slot + 1)
  | _, t => (oneA E t x, [], slot)
def impR : (rs : List (Bool × Ty)) → RT E.toTys rs → Nat → List (AV E.toTys) × List (Nat × Blk E.toTys)
  | [], _, _ => ([], [])
  | [(b, t)], x, slot => match imp1 b t x slot with | (v, us, _) => ([v], us)
  | (b, t) :: r :: rs, x, slot => match imp1 b t x.1 slot with
    | (v, us, s) => match impR (r :: rs) x.2 s with | (vs, us') => (v :: vs, cat us us')
def toCV (v : AV E.toTys) : CV E.toTys := match v with
  | .c v => v
  | _ => .s .dead
abbrev KT (E : Env) (R : Type) := AV E.toTys → List (Nat × Blk E.toTys) → Option R
def vi (k : IntKind) (x : Int) : AV E.toTys := .c (.s (.val (.int k) x))
def vt (p : Prop) (d : Decidable p) (n : Bool) : AV E.toTys := .c (.s (.tst p d n))
def intBin (op : BinOp) (k : IntKind) (a : Int) (k' : IntKind) (b : Int) (K : KT E R) : Option R := match op with
  | .shl => if 0 ≤ b then K (vi k (shl k a b)) [] else none
  | .shr => if 0 ≤ b then K (vi k (shr k a b)) [] else none
  | op => gd (decide (k = k')) (match op with
      | .add => K (vi k (wr k (a + b))) []
      | .sub => K (vi k (wr k (a - b))) []
      | .mul => K (vi k (wr k (a * b))) []
      | .quo => if b = 0 then none else K (vi k (wr k (a.tdiv b))) []
      | .rem => if b = 0 then none else K (vi k (a.tmod b)) []
      | .lss => K (vt (a < b) inferInstance false) []
      | .leq => K (vt (a ≤ b) inferInstance false) []
      | .gtr => K (vt (a > b) inferInstance false) []
      | .geq => K (vt (a ≥ b) inferInstance false) []
      | .eql => K (vt (a = b) inferInstance false) []
      | .neq => K (vt (a = b) inferInstance true) []
      | op => K (vi k (bits op k a b)) [])
/-- Cells that are numbers, one by one the same. -/
def eqs : List (SV E.toTys) → List (SV E.toTys) → Option ((p : Prop) × Decidable p)
  | [.val (.int k) a], [.val (.int k') b] => if k = k' then some ⟨a = b, inferInstance⟩ else none
  | .val (.int k) a :: x :: xs, .val (.int k') b :: y :: ys => if k = k' then match eqs (x :: xs) (y :: ys) with
      | some ⟨p, d⟩ => some ⟨a = b ∧ p, @instDecidableAnd _ _ inferInstance d⟩
      | none => none
    else none
  | _, _ => none
def isSl : Option Ty → Bool
  | some (.slice _) => true
  | _ => false
def isP : Option Ty → Bool
  | some (.ptr _) => true
  | _ => false
def isBool : Option Ty → Bool
  | some .bool => true
  | _ => false
def vb (b : Bool) : AV E.toTys := .c (.s (.val .bool b))
def opEqS (op : BinOp) (ty : Option Ty) (u v : SV E.toTys) (K : KT E R) : Option R := match isBool ty with
  | true => match asB u, asB v, op with
    | some a, some b, .eql => K (vt (a = b) inferInstance false) []
    | some a, some b, .neq => K (vt (a = b) inferInstance true) []
    | _, _, _ => none
  | false => match isP ty, u, v, op with
    | true, .val (.ptr t) x, .nilp, .eql => match x with | none => K (vb true) [] | some _ => K (vb false) []
    | true, .val (.ptr t) x, .nilp, .neq => match x with | none => K (vb false) [] | some _ => K (vb true) []
    | _, _, _, _ => none
def opBin (q : Nat) (ty : Option Ty) (op : BinOp) (x y : AV E.toTys) (K : KT E R) : Option R := match x, y with
  | .c (.s (.val (.int k) a)), .c (.s (.val (.int k') b)) => intBin op k a k' b K
  | .c (.s u), .c (.s v) => opEqS op ty u v K
  | .c (.agg xs), .c (.agg ys) => match Nat.beq (len xs) q, op, eqs xs ys with
    | true, .eql, some ⟨p, d⟩ => K (vt p d false) []
    | true, .neq, some ⟨p, d⟩ => K (vt p d true) []
    | _, _, _ => none
  | _, _ => none
def opUn (op : UnOp) (x : AV E.toTys) (K : KT E R) : Option R := match op, x with
  | .not, .c (.s (.val .bool b)) => K (.c (.s (.val .bool (!b)))) []
  | .not, .c (.s (.tst p d n)) => K (vt p d (!n)) []
  | .neg, .c (.s (.val (.int k) a)) => K (vi k (wr k (0 - a))) []
  | .xor, .c (.s (.val (.int k) a)) => K (vi k (bits .xor k (if k.signed then -1 else k.max) a)) []
  | _, _ => none
def opConv (C : Ctx E) (src dst : Nat) (x : AV E.toTys) (K : KT E R) : Option R := match C.ty src, C.ty dst, x with
  | some (.int _), some (.int k), .c (.s (.val (.int _) a)) => K (vi k (wr k a)) []
  | _, _, _ => none
def opAlloc (C : Ctx E) (t slot : Nat) (K : KT E R) : Option R := match C.ty t with
  | some (.arr n u) => K (.c (.s (.ptr slot 0))) [(slot, .avar n u (dflt E (.arr n u)))]
  | some t => match zcells E t with
    | some cs => K (.c (.s (.ptr slot 0))) [(slot, .var cs)]
    | none => none
  | none => none
def opBox (x : AV E.toTys) (slot : Nat) (K : KT E R) : Option R := match x with
  | .c (.s .dead) => none
  | .c v => K (.c (.s (.ptr slot 0))) [(slot, .var (cells v))]
  | .arr n u xs => K (.c (.s (.ptr slot 0))) [(slot, .avar n u xs)]
  | _ => none
def isD (v : CV E.toTys) : Bool := match v with
  | .s .dead => true
  | _ => false
def buildCells (C : Ctx E) (t : Nat) : List (Nat × AV E.toTys) → List (SV E.toTys) → Option (List (SV E.toTys))
  | [], cs => some cs
  | (_, .c (.s .dead)) :: _, _ => none
  | (i, .c v) :: r, cs => match C.fld t i with
    | some (o, ft) => match C.ty ft with
      | some ty => if Nat.beq (len (cells v)) (sz E ty) then match splice cs o (cells v) with
          | some cs' => buildCells C t r cs'
          | none => none
        else none
      | none => none
    | none => none
  | _, _ => none
def buildElems (rd : Nat → Blk E.toTys) (u : Ty) : List (Nat × AV E.toTys) → List (den E.toTys u) → List (Nat × Blk E.toTys) → Option (List (den E.toTys u) × List (Nat × Blk E.toTys))
  | [], xs, us => some (xs, us)
  | (i, .c v) :: r, xs, us => match isD v with
    | true => none
    | false => match expC0 rd u (cells v) with
      | some x => match Nat.blt i (len xs) with
        | true => buildElems rd u r (put1 xs i x) (cat us (frz (cells v)))
        | false => none
      | none => none
  | _, _, _ => none
def opBuild (C : Ctx E) (t : Nat) (rd : Nat → Blk E.toTys) (parts : List (Nat × AV E.toTys)) (K : KT E R) : Option R := match C.ty t with
  | some (.st n) => match zcells E (.st n) with
    | some cs => match buildCells C t parts cs with
      | some cs' => K (.c (.agg cs')) []
      | none => none
    | none => none
  | some (.arr n u) => match buildElems rd u parts (rep n (dflt E u)) [] with
    | some (xs, us) => K (.arr n u xs) us
    | none => none
  | _ => none
def opBuildSlice (C : Ctx E) (t n : Nat) (rd : Nat → Blk E.toTys) (parts : List (Nat × AV E.toTys)) (slot : Nat) (K : KT E R) : Option R := match C.ty t with
  | some (.slice u) => match Nat.ble (n * sz E u) 16777216, buildElems rd u parts (rep n (dflt E u)) [] with
    | true, some (xs, us) => K (.c (.s (.ref slot))) ((slot, .arr u xs) :: us)
    | _, _ => none
  | _ => none
def loadFrom (C : Ctx E) (t : Nat) (cs : List (SV E.toTys)) (off : Nat) (K : KT E R) : Option R := match C.ty t with
  | some (.st n) => match cut cs off (sz E (.st n)) with
    | some l => K (.c (.agg l)) []
    | none => none
  | some (.arr _ _) => none
  | some _ => match cut cs off 1 with
    | some [v] => K (.c (.s v)) []
    | _ => none
  | none => none
def opLoad (C : Ctx E) (t : Nat) (rd : Nat → Blk E.toTys) (a : AV E.toTys) (K : KT E R) : Option R := match a with
  | .c (.s (.ptr id off)) => match rd id with
    | .var cs => loadFrom C t cs off K
    | .avar n u xs => match off, C.ty t with
      | 0, some t' => gd (decide (t' = .arr n u)) (K (.arr n u xs) [])
      | _, _ => none
    | _ => none
  | .c (.s (.elt id u i off)) => match rd id with
    | .arr u' xs => match conv (.slice u') (.slice u) xs with
      | some ys => loadFrom C t (flat u (rdA E u ys i)) off K
      | none => none
    | .avar _ u' xs => match conv (.slice u') (.slice u) xs with
      | some ys => loadFrom C t (flat u (rdA E u ys i)) off K
      | none => none
    | _ => none
  | .c (.s (.box u x off)) => loadFrom C t (flat u x) off K
  | .c (.s (.val (.ptr u) x)) => match x with
    | some y => loadFrom C t (flat u y) 0 K
    | none => none
  | _ => none
def hasU (id : Nat) : List (Nat × Blk E.toTys) → Bool
  | [] => false
  | (i, _) :: r => Nat.beq i id || hasU id r
def storeElt (u : Ty) (xs : List (den E.toTys u)) (i : Int) (off : Nat) (new : List (SV E.toTys)) (rd : Nat → Blk E.toTys) : Option (List (den E.toTys u)) :=
  match splice (flat u (rdA E u xs i)) off new with
  | some cs => match expC0 rd u cs with
    | some x => some (xs.set i.toNat x)
    | none => none
  | none => none
def opStore (C : Ctx E) (t : Nat) (rd : Nat → Blk E.toTys) (a v : AV E.toTys) (K : KT E R) : Option R := match a, v with
  | _, .c (.s .dead) => none
  | .c (.s (.ptr id off)), .c v => match rd id, C.ty t with
    | .var cs, some ty => gd (Nat.beq (len (cells v)) (sz E ty)) (match splice cs off (cells v) with
        | some cs' => K (.c (.s .dead)) [(id, .var cs')]
        | none => none)
    | _, _ => none
  | .c (.s (.ptr id off)), .arr m u' ys => match rd id, off, C.ty t with
    | .avar n u xs, 0, some t' => gd (decide (t' = .arr n u)) (match isArr u, conv (.arr m u') (.arr n u) ys with
        | false, some zs => K (.c (.s .dead)) [(id, .avar n u zs)]
        | _, _ => none)
    | _, _, _ => none
  | .c (.s (.elt id u i off)), .c v => match rd id, C.ty t with
    | .arr u' xs, some ty => gd (Nat.beq (len (cells v)) (sz E ty)) (match conv (.slice u') (.slice u) xs with
        | some ys => match storeElt u ys i off (cells v) rd with
          | some zs => match hasU id (frz (cells v)) with
            | false => K (.c (.s .dead)) ((id, .arr u zs) :: frz (cells v))
            | true => none
          | none => none
        | none => none)
    | .avar n u' xs, some ty => gd (Nat.beq (len (cells v)) (sz E ty)) (match conv (.slice u') (.slice u) xs with
        | some ys => match storeElt u ys i off (cells v) rd with
          | some zs => match hasU id (frz (cells v)) with
            | false => K (.c (.s .dead)) ((id, .avar n u zs) :: frz (cells v))
            | true => none
          | none => none
        | none => none)
    | _, _ => none
  | _, _ => none
def opFieldAddr (C : Ctx E) (t f : Nat) (x : AV E.toTys) (K : KT E R) : Option R := match C.fld t f, x with
  | some (o, _), .c (.s v) => match v with
    | .ptr id off => K (.c (.s (.ptr id (off + o)))) []
    | .elt id u i off => K (.c (.s (.elt id u i (off + o)))) []
    | .box u y off => K (.c (.s (.box u y (off + o)))) []
    | .val (.ptr u) y => match y with
      | some y => K (.c (.s (.box u y o))) []
      | none => none
    | _ => none
  | _, _ => none
def opField (C : Ctx E) (t f : Nat) (x : AV E.toTys) (K : KT E R) : Option R := match C.fld t f, x with
  | some (o, ft), .c (.agg cs) => loadFrom C ft cs o K
  | _, _ => none
def opIndexAddr (ty : Option Ty) (rd : Nat → Blk E.toTys) (x i : AV E.toTys) (K : KT E R) : Option R := match x, i with
  | .c (.s v), .c (.s (.val (.int _) i)) => match ty, v with
    | some (.slice t), .ref id => match rd id with
      | .arr u xs => gd (decide (u = t)) (if 0 ≤ i then if i < (xs.length : Int) then K (.c (.s (.elt id u i 0))) [] else none else none)
      | _ => none
    | some (.slice t), .val (.slice u) xs => gd (decide (u = t)) (if 0 ≤ i then if i < (xs.length : Int) then K (.c (.s (.box u (rdA E u xs i) 0))) [] else none else none)
    | some (.arr m t), .ptr id 0 => match rd id with
      | .avar n u xs => gd (decide (n = m ∧ u = t)) (if 0 ≤ i then if i < (n : Int) then K (.c (.s (.elt id u i 0))) [] else none else none)
      | _ => none
    | _, _ => none
  | _, _ => none
def opIndex (ty : Option Ty) (x i : AV E.toTys) (K : KT E R) : Option R := match x, i, ty with
  | .arr n u xs, .c (.s (.val (.int _) i)), some (.arr m v) => gd (decide (n = m ∧ u = v)) (if 0 ≤ i then if i < (n : Int) then K (.c (one E u (rdA E u xs i))) [] else none else none)
  | _, _, _ => none
/-- A byte of a text. -/
def bt (s : ByteArray) (i : Int) : Int := if h : i.toNat < s.size then ((s[i.toNat]'h).toNat : Int) else 0
def opStrIx (b : Bool) (s : ByteArray) (i : AV E.toTys) (K : KT E R) : Option R := match b, i with
  | true, .c (.s (.val (.int _) i)) => if 0 ≤ i then if i < (s.size : Int) then K (vi .u8 (bt s i)) [] else none else none
  | _, _ => none
def opMake (C : Ctx E) (t : Nat) (l : AV E.toTys) (slot : Nat) (K : KT E R) : Option R := match C.ty t, l with
  | some (.slice u), .c (.s (.val (.int k) n)) => if 0 ≤ n then if n ≤ 140737488355328 / (C.bytes t : Int) then K (.c (.s (.ref slot))) [(slot, .arr u (List.replicate n.toNat (dflt E u)))] else none else none
  | _, _ => none
/-- Bounds of a cut. -/
def bnds (l : Nat) (lo hi : Option (AV E.toTys)) (K : Option Int → Option Int → Option R) : Option R := match lo, hi with
  | none, none => K none none
  | none, some (.c (.s (.val (.int _) h))) => if 0 ≤ h then if h ≤ (l : Int) then K none (some h) else none else none
  | some (.c (.s (.val (.int _) b))), none => if 0 ≤ b then if b ≤ (l : Int) then K (some b) none else none else none
  | some (.c (.s (.val (.int _) b))), some (.c (.s (.val (.int _) h))) => if 0 ≤ b then if b ≤ h then if h ≤ (l : Int) then K (some b) (some h) else none else none else none
  | _, _ => none
def cutL {α : Type} (xs : List α) (lo hi : Option Int) : List α := match lo, hi with
  | none, none => xs
  | none, some h => xs.take h.toNat
  | some b, none => xs.drop b.toNat
  | some b, some h => (xs.take h.toNat).drop b.toNat
def isZ : Option Operand → Bool
  | some (.const (.int _ (Int.ofNat 0))) => true
  | _ => false
def isEmp {T : Tys} : SV T → Bool
  | .emp => true
  | _ => false
/-- The call's own list, cut behind: it stays the call's own. -/
def ownCut (rd : Nat → Blk E.toTys) (u : Ty) (v : SV E.toTys) (lo : Option (AV E.toTys)) : Option (Nat × List (den E.toTys u)) := match v, lo with
  | .ref id, none => match rd id with
    | .arr u' xs => match conv (.slice u') (.slice u) xs with
      | some xs => some (id, xs)
      | none => none
    | _ => none
  | _, _ => none
/-- The third bound of a cut is the second. -/
def sameB (hi mx : Option (AV E.toTys)) (sm : Bool) (x : Option R) : Option R := match mx, sm with
  | some (.c (.s (.val (.int _) m))), false => match hi with
    | some (.c (.s (.val (.int _) h))) => if m = h then x else none
    | _ => none
  | some _, false => none
  | _, _ => x
def opSlice (C : Ctx E) (t : Nat) (rd : Nat → Blk E.toTys) (x : AV E.toTys) (lo hi mx : Option (AV E.toTys)) (z sm : Bool) (slot : Nat) (K : KT E R) : Option R := match x, C.ty t with
  | .c (.s v), some (.slice u) => match z with
    | true => match v with
      | .val (.slice _) _ => K (.c (.s .emp)) []
      | .ref _ => K (.c (.s .emp)) []
      | .emp => K (.c (.s .emp)) []
      | _ => none
    | false => match isEmp v with
      | true => sameB hi mx sm (bnds 0 lo hi fun _ _ => K (.c (.s .emp)) [])
      | false => match ownCut rd u v lo with
        | some (id, xs) => sameB hi mx sm (bnds xs.length none hi fun a b => K (.c (.s (.ref slot))) [(slot, .arr u (cutL xs a b)), (id, .gone)])
        | none => match lst rd u (.c (.s v)) with
          | some xs => sameB hi mx sm (bnds xs.length lo hi fun a b => K (.c (.s (.val (.slice u) (cutL xs a b)))) (frz [v]))
          | none => none
  | _, _ => none
def opExtract (x : AV E.toTys) (i : Nat) (K : KT E R) : Option R := match x with
  | .tup vs => match vs[i]? with
    | some v => K (.c v) []
    | none => none
  | _ => none
def lenOf (rd : Nat → Blk E.toTys) (v : AV E.toTys) : Option Nat := match v with
  | .c (.s .emp) => some 0
  | .c (.s (.val (.slice _) xs)) => some xs.length
  | .c (.s (.ref id)) => match rd id with
    | .arr _ xs => some xs.length
    | _ => none
  | .arr n _ _ => some n
  | _ => none
def opLen (C : Ctx E) (ts : List Nat) (rd : Nat → Blk E.toTys) (v : AV E.toTys) (K : KT E R) : Option R := match ts with
  | [t] => match C.ty t, v with
    | some (.slice _), .c _ => match lenOf rd v with
      | some n => K (vi .i64 (n : Int)) []
      | none => none
    | some (.arr m _), .arr _ _ _ => K (vi .i64 (m : Int)) []
    | _, _ => none
  | _ => none
def opAppend (C : Ctx E) (t : Nat) (rd : Nat → Blk E.toTys) (s x : AV E.toTys) (slot : Nat) (K : KT E R) : Option R := match C.ty t with
  | some (.slice u) => match isArr u, lst rd u x with
    | false, some ys => match s with
      | .c (.s .emp) => if ys.length ≤ 140737488355328 / C.bytes t then K (.c (.s (.ref slot))) [(slot, .arr u ys)] else none
      | .c (.s (.ref id)) => match rd id with
        | .arr u' xs => match conv (.slice u') (.slice u) xs with
          | some xs => if xs.length + ys.length ≤ 140737488355328 / C.bytes t then K (.c (.s (.ref slot))) [(slot, .arr u (xs ++ ys)), (id, .gone)] else none
          | none => none
        | _ => none
      | _ => none
    | _, _ => none
  | _ => none
/-- Noughts behind a list without room. -/
def opAppendZ (C : Ctx E) (t t' : Nat) (s x : AV E.toTys) (slot : Nat) (K : KT E R) : Option R := match C.ty t, C.ty t', s, x with
  | some (.slice u), some (.int _), .c (.s .emp), .c (.s (.val (.int _) n)) => if 0 ≤ n then if n ≤ 140737488355328 / (C.bytes t : Int) then K (.c (.s (.ref slot))) [(slot, .arr u (List.replicate n.toNat (dflt E u)))] else none else none
  | _, _, _, _ => none
def opCopy (C : Ctx E) (t : Nat) (rd : Nat → Blk E.toTys) (d x : AV E.toTys) (K : KT E R) : Option R := match C.ty t, d with
  | some (.slice u), .c (.s (.ref id)) => match isArr u, lst rd u (.c (.s (.ref id))), lst rd u x with
    | false, some xs, some ys => K (vi .i64 (min ys.length xs.length : Nat)) [(id, .arr u (ys.take xs.length ++ xs.drop ys.length))]
    | _, _, _ => none
  | _, _ => none
def opCap (C : Ctx E) (ts : List Nat) (v : AV E.toTys) (K : KT E R) : Option R := match ts with
  | [t] => match isSl (C.ty t), v with
    | true, .c (.s .emp) => K (vi .i64 0) []
    | _, _ => none
  | _ => none
def maxs (big : Bool) : List (AV E.toTys) → IntKind → Int → Option (IntKind × Int)
  | [], k, x => some (k, x)
  | .c (.s (.val (.int _) y)) :: r, k, x => maxs big r k (match big with | true => if y > x then y else x | false => if y < x then y else x)
  | _, _, _ => none
def opMax (big : Bool) (xs : List (AV E.toTys)) (K : KT E R) : Option R := match xs with
  | .c (.s (.val (.int k) x)) :: r => match maxs big r k x with
    | some (k, x) => K (vi k x) []
    | none => none
  | _ => none
/-- No memory in it. -/
def flat1 : Ty → Bool
  | .int _ => true
  | .bool => true
  | .any => true
  | _ => false
def allF : List Ty → Bool
  | [] => true
  | t :: r => match flat1 t with
    | true => allF r
    | false => false
def flatT (E : Env) : Ty → Bool
  | .st n => allF (E.fs n)
  | .arr _ t => flatT E t
  | t => flat1 t
def flatR (E : Env) : List (Bool × Ty) → Bool
  | [] => true
  | (true, .slice u) :: r => match flatT E u with
    | true => flatR E r
    | false => false
  | (_, t) :: r => match flatT E t with
    | true => flatR E r
    | false => false
def owns : List (Bool × Ty) → Nat
  | [] => 0
  | (true, .slice _) :: r => owns r + 1
  | _ :: r => owns r
def refsA : List (AV E.toTys) → List (SV E.toTys)
  | [] => []
  | .c v :: r => cat (cells v) (refsA r)
  | _ :: r => refsA r
def noPtr : List (SV E.toTys) → Bool
  | [] => true
  | .ptr _ _ :: _ => false
  | .elt _ _ _ _ :: _ => false
  | _ :: r => noPtr r
def noClo : List (AV E.toTys) → Bool
  | [] => true
  | .clo _ _ :: _ => false
  | _ :: r => noClo r
/-- What a call's answer may share with its arguments is given up. -/
def given (rs : List (Bool × Ty)) (args : List (AV E.toTys)) : Option (List (Nat × Blk E.toTys)) := match flatR E rs with
  | true => some []
  | false => match noPtr (refsA args) && noClo args with
    | true => some (frz (refsA args))
    | false => none
/-- What a written argument is, in the caller and in the call. -/
def ioRd (rd : Nat → Blk E.toTys) (t : Ty) (id : Nat) : Option (den E.toTys t) := match t with
  | .slice u => match rd id with
    | .arr u' xs => conv (.slice u') (.slice u) xs
    | _ => none
  | .ptr u => match rd id with
    | .var cs => match expC0 rd u cs with
      | some y => some (some y)
      | none => none
    | _ => none
  | _ => none
def ioBlk (t : Ty) (x : den E.toTys t) : Option (Blk E.toTys) := match t with
  | .slice u => some (.arr u x)
  | .ptr u => match x with
    | some y => match isArr u with
      | true => none
      | false => some (.var (flat u y))
    | none => none
  | _ => none
def ioK (t : Ty) (x : den E.toTys t) (K : Blk E.toTys → Option R) : Option R := match t with
  | .slice u => K (.arr u x)
  | .ptr u => match x with
    | some y => match isArr u with
      | true => none
      | false => K (.var (flat u y))
    | none => none
  | _ => none
theorem ioK_eq (t : Ty) (x : den E.toTys t) (K : Blk E.toTys → Option R) : ioK t x K = (ioBlk t x).bind K := by
  cases t <;> first | rfl | skip
  rename_i u
  cases x with
  | none => rfl
  | some y =>
    simp only [ioK, ioBlk]
    cases isArr u <;> rfl
def ioFlat (E : Env) : Ty → Bool
  | .slice u => flatT E u
  | .ptr u => flatT E u
  | _ => false
def ioId (t : Ty) (v : AV E.toTys) : Option Nat := match t, v with
  | .slice _, .c (.s (.ref id)) => some id
  | .ptr _, .c (.s (.ptr id 0)) => some id
  | _, _ => none
def ioVal (t : Ty) (x : den E.toTys t) : AV E.toTys := .c (.s (.val t x))
def hide (id : Nat) (rd : Nat → Blk E.toTys) (j : Nat) : Blk E.toTys := match Nat.beq j id with
  | true => .gone
  | false => rd j
/-- A call that writes its argument. -/
def opCallIO (g : Sig E.toTys) (p : Nat) (rd : Nat → Blk E.toTys) (args : List (AV E.toTys)) (slot : Nat) (K : KT E R) : Option R := match g with
  | ⟨ps, (true, t) :: rs, _, f⟩ => match ioId t (nth (.c (.s .dead)) args p) with
    | some id => match ioRd rd t id, ioFlat E t && (flatR E rs && Nat.beq (owns rs) 0) with
      | some x, true => match expArgs (hide id rd) ps (put1 args p (ioVal t x)) with
        | some a => (f a).bind fun r => ioK t (rtHd r) fun b => match impR rs (rtTl r) slot with
          | ([v], _) => K v [(id, b)]
          | (vs, _) => K (.tup (vs.map toCV)) [(id, b)]
        | none => none
      | _, _ => none
    | none => none
  | _ => none
def bxs {T : Tys} : (us : List Ty) → HL T us → List (CV T)
  | [], _ => []
  | t :: ts, x => .s (.val (.ptr t) (some x.1)) :: bxs ts x.2
/-- Nothing with memory. -/
def flatP (E : Env) : List Ty → Bool
  | [] => true
  | t :: r => match flatT E t with
    | true => flatP E r
    | false => false
/-- A call that answers a function with variables of its own. -/
def opCallC (g : CloSig E.toTys) (rd : Nat → Blk E.toTys) (args : List (AV E.toTys)) (slot : Nat) (K : KT E R) : Option R := match flatP E g.ps && !isArr g.u, expArgs rd g.ps args with
  | true, some a => (g.f a).bind fun r => K (.clo g.n (.s (.ptr slot 0) :: bxs g.us r.2)) [(slot, .var (flat g.u r.1))]
  | _, _ => none
/-- A call that uses up an empty list. -/
def opCallUse0 (g : Sig E.toTys) (p : Nat) (rd : Nat → Blk E.toTys) (args : List (AV E.toTys)) (slot : Nat) (K : KT E R) : Option R := match nth .em g.ps p with
  | .slice u => match flatR E g.rs && Nat.ble (owns g.rs) 1, expArgs rd g.ps (put1 args p (ioVal (.slice u) [])) with
    | true, some a => (g.f a).bind fun r => match impR g.rs r slot with
      | ([v], us) => K v us
      | (vs, us) => K (.tup (vs.map toCV)) us
    | _, _ => none
  | _ => none
/-- A call that uses up an argument: what it answers may lie in that one's memory. -/
def opCallUse (g : Sig E.toTys) (p : Nat) (rd : Nat → Blk E.toTys) (args : List (AV E.toTys)) (slot : Nat) (K : KT E R) : Option R := match nth (.c (.s .dead)) args p with
  | .c (.s (.ref id)) => match rd id with
    | .arr u xs => match flatT E u && (flatR E g.rs && Nat.ble (owns g.rs) 1), expArgs (hide id rd) g.ps (put1 args p (ioVal (.slice u) xs)) with
      | true, some a => (g.f a).bind fun r => match impR g.rs r slot with
        | ([v], us) => K v ((id, .gone) :: us)
        | (vs, us) => K (.tup (vs.map toCV)) ((id, .gone) :: us)
      | _, _ => none
    | _ => none
  | .c (.s .emp) => opCallUse0 g p rd args slot K
  | _ => none
/-- Lists among a struct's fields. -/
def nSl : List Ty → Nat
  | [] => 0
  | .slice _ :: ts => nSl ts + 1
  | _ :: ts => nSl ts
/-- What a struct with lists of its own holds, and the lists' rows. -/
def bxRd (rd : Nat → Blk E.toTys) : (ts : List Ty) → List (SV E.toTys) → Option (HL E.toTys ts × List Nat)
  | [], [] => some ((), [])
  | .slice u :: ts, v :: vs => match v with
    | .emp => match bxRd rd ts vs with
      | some (x, js) => some (([], x), js)
      | none => none
    | .ref j => match rd j with
      | .arr u' xs => match conv (.slice u') (.slice u) xs, bxRd rd ts vs with
        | some y, some (x, js) => some ((y, x), j :: js)
        | _, _ => none
      | _ => none
    | _ => none
  | t :: ts, v :: vs => match expS0 (fun _ => .gone) t v, bxRd rd ts vs with
    | some y, some (x, js) => some ((y, x), js)
    | _, _ => none
  | _, _ => none
/-- No memory but lists without memory. -/
def bxT (E : Env) : List Ty → Bool
  | [] => true
  | .slice u :: ts => flatT E u && bxT E ts
  | t :: ts => flat1 t && bxT E ts
def bxCells : (ts : List Ty) → HL E.toTys ts → Nat → List (SV E.toTys)
  | [], _, _ => []
  | .slice _ :: ts, x, s => .ref s :: bxCells ts x.2 (s + 1)
  | t :: ts, x, s => .val t x.1 :: bxCells ts x.2 s
def bxArrs : (ts : List Ty) → HL E.toTys ts → List (Blk E.toTys)
  | [], _ => []
  | .slice u :: ts, x => .arr u x.1 :: bxArrs ts x.2
  | _ :: ts, x => bxArrs ts x.2
def memN (i : Nat) : List Nat → Bool
  | [] => false
  | j :: r => Nat.beq i j || memN i r
def distN : List Nat → Bool
  | [] => true
  | i :: r => !memN i r && distN r
def hideL (l : List Nat) (rd : Nat → Blk E.toTys) (j : Nat) : Blk E.toTys := match memN j l with
  | true => .gone
  | false => rd j
def goneL : List Nat → List (Nat × Blk E.toTys)
  | [] => []
  | j :: r => (j, .gone) :: goneL r
def numL : Nat → List (Blk E.toTys) → List (Nat × Blk E.toTys)
  | _, [] => []
  | s, b :: r => (s, b) :: numL (s + 1) r
/-- A call that writes a struct with lists of its own. -/
def opCallBox (g : BoxSig E) (rd : Nat → Blk E.toTys) (args : List (AV E.toTys)) (slot : Nat) (K : KT E R) : Option R := match args with
  | .c (.s (.ptr id 0)) :: args => match rd id with
    | .var cs => match bxRd rd (E.fs g.n) cs with
      | some (x, js) => match distN (id :: js) && (bxT E (E.fs g.n) && (flatR E g.rs && Nat.beq (owns g.rs) 0)), expArgs (hideL (id :: js) rd) g.ps args with
        | true, some a => (g.f (E.of g.n x) a).bind fun r => match impR g.rs r.2 slot with
          | ([v], _) => K v ((id, .var (bxCells (E.fs g.n) (E.to g.n r.1) slot)) :: cat (goneL js) (numL slot (bxArrs (E.fs g.n) (E.to g.n r.1))))
          | (vs, _) => K (.tup (vs.map toCV)) ((id, .var (bxCells (E.fs g.n) (E.to g.n r.1) slot)) :: cat (goneL js) (numL slot (bxArrs (E.fs g.n) (E.to g.n r.1))))
        | _, _ => none
      | none => none
    | _ => none
  | _ => none
def opCall (C : Ctx E) (f : FuncId) (rd : Nat → Blk E.toTys) (args : List (AV E.toTys)) (slot : Nat) (K : KT E R) : Option R := match C.calls f with
  | some g => match g.io with
    | some p => match Nat.ble 1000 p with
      | true => opCallUse g (p - 1000) rd args slot K
      | false => opCallIO g p rd args slot K
    | none => match Nat.ble (owns g.rs) 1, given g.rs args, expArgs rd g.ps args with
      | true, some us0, some a => (g.f a).bind fun r => match impR g.rs r slot with
        | ([v], us) => K v (cat us0 us)
        | (vs, us) => K (.tup (vs.map toCV)) (cat us0 us)
      | _, _, _ => none
  | none => match C.clos f with
    | some g => opCallC g rd args slot K
    | none => match C.boxes f with
      | some g => opCallBox g rd args slot K
      | none => none
/-- Rows that a call needs. -/
def ownsG (g : Sig E.toTys) : Nat := match g.io with
  | some p => match Nat.ble 1000 p with
    | true => owns g.rs
    | false => 0
  | none => owns g.rs
def ownsF (C : Ctx E) (f : FuncId) : Nat := match C.calls f with
  | some g => ownsG g
  | none => 1
/-- A call of a function value. -/
def opCallV (C : Ctx E) (v : AV E.toTys) (rd : Nat → Blk E.toTys) (args : List (AV E.toTys)) (slot : Nat) (K : KT E R) : Option R := match v with
  | .c (.s (.val (.ext n u) x)) => match ownsF C n with
    | 0 => opCall C n rd (cat args [.c (.s (.val (.ptr u) (some x)))]) slot K
    | _ => none
  | .c (.s (.val (.fnv n) _)) => match ownsF C n with
    | 0 => opCall C n rd args slot K
    | _ => none
  | .clo n cs => match ownsF C n with
    | 0 => opCall C n rd (cat args (cs.map .c)) slot K
    | _ => none
  | _ => none
def opVal (C : Ctx E) (x : Operand) (e : Operand → AV E.toTys) (rd : Nat → Blk E.toTys) (args : List (AV E.toTys)) (slot : Nat) (K : KT E R) : Option R := match x with
  | .func f => opCall C f rd args slot K
  | .tmp t => opCallV C (e (.tmp t)) rd args slot K
  | _ => none
def caps : List (AV E.toTys) → Option (List (CV E.toTys))
  | [] => some []
  | .c (.s .dead) :: _ => none
  | .c (.s v) :: r => match caps r with
    | some l => some (.s v :: l)
    | none => none
  | _ => none
def opMkF (f : Fn) (vs : List (AV E.toTys)) (K : KT E R) : Option R := match f, caps vs with
  | .func f, some cs => K (.clo f cs) []
  | _, _ => none
/-- Interface values. -/
def anyV : Option (Nat × Value) → Value
  | none => .nilIface
  | some (t, v) => .iface t v
def valS : SV E.toTys → Option Value
  | .val (.int k) x => some (.int k x)
  | .val .bool x => some (.bool x)
  | .val .any x => some (anyV x)
  | .tst p d false => some (.bool (@decide p d))
  | .tst p d true => some (.bool (!@decide p d))
  | _ => none
def valL : List (SV E.toTys) → Option (List Value)
  | [] => some []
  | v :: r => match valS v, valL r with
    | some u, some l => some (u :: l)
    | _, _ => none
def unS1 (T : Tys) : (t : Ty) → Value → Option (den T t)
  | .int k, v => match v with
    | .int k' x => match decide (k = k') with
      | true => some x
      | false => none
    | _ => none
  | .bool, v => match v with
    | .bool b => some b
    | _ => none
  | .any, v => match v with
    | .nilIface => some none
    | .iface t u => some (some (t, u))
    | _ => none
  | _, _ => none
def unHL (T : Tys) : (ts : List Ty) → List Value → Option (HL T ts)
  | [], [] => some ()
  | t :: ts, v :: vs => match unS1 T t v, unHL T ts vs with
    | some x, some y => some (x, y)
    | _, _ => none
  | _, _ => none
/-- A struct that an interface value holds. -/
def unSt (E : Env) (n : Nat) (v : Value) : Option (E.S n) := match v with
  | .agg cs => match unHL E.toTys (E.fs n) cs.toList with
    | some x => some (E.of n x)
    | none => none
  | _ => none
def isT (t : Nat) (x : Option (Nat × Value)) : Option Value := match x with
  | some (u, v) => match Nat.beq u t with
    | true => some v
    | false => none
  | none => none
def opMkI (C : Ctx E) (t : Nat) (x : AV E.toTys) (K : KT E R) : Option R := match C.ty t, x with
  | some (.st _), .c (.agg cs) => match valL cs with
    | some vs => K (.c (.s (.val .any (some (t, .agg vs.toArray))))) []
    | none => none
  | some (.int _), .c (.s v) => match valS v with
    | some u => K (.c (.s (.val .any (some (t, u))))) []
    | none => none
  | _, _ => none
def opTA (C : Ctx E) (t : Nat) (ok : Bool) (x : AV E.toTys) (K : KT E R) : Option R := match C.ty t, x with
  | some (.st n), .c (.s (.val .any x)) => match isT t x with
    | some u => (unSt E n u).bind fun y => match ok with
      | true => K (.tup [.agg (flatL (E.fs n) (E.to n y)), .s (.val .bool true)]) []
      | false => K (.c (.agg (flatL (E.fs n) (E.to n y)))) []
    | none => match ok, zcells E (.st n) with
      | true, some cs => K (.tup [.agg cs, .s (.val .bool false)]) []
      | _, _ => none
  | _, _ => none
def opNil (x : AV E.toTys) (K : KT E R) : Option R := match x with
  | .c (.s (.ptr id off)) => K x []
  | .c (.s (.elt id u i off)) => K x []
  | .c (.s (.box u y off)) => K x []
  | .c (.s (.val (.ptr u) y)) => match y with
    | some y => K (.c (.s (.box u y 0))) []
    | none => none
  | _ => none
def same (x y : Operand) : Bool := match x, y with
  | .tmp a, .tmp b => Nat.beq a b
  | .const (.int k (Int.ofNat a)), .const (.int k' (Int.ofNat b)) => if k = k' then Nat.beq a b else false
  | _, _ => false
def sameO : Option Operand → Option Operand → Bool
  | some x, some y => same x y
  | _, _ => false
def opBi (C : Ctx E) (b : Builtin) (e : Operand → AV E.toTys) (rd : Nat → Blk E.toTys) (args : List Operand) (ts : List Nat) (slot : Nat) (K : KT E R) : Option R := match b with
  | .len => match args with
    | [x] => opLen C ts rd (e x) K
    | _ => none
  | .append => match args, ts with
    | [s, x], [t, t'] => match isSl (C.ty t') with
      | true => opAppend C t rd (e s) (e x) slot K
      | false => opAppendZ C t t' (e s) (e x) slot K
    | _, _ => none
  | .copy => match args, ts with
    | [d, x], t :: _ => opCopy C t rd (e d) (e x) K
    | _, _ => none
  | .cap => match args with
    | [x] => opCap C ts (e x) K
    | _ => none
  | .max => opMax true (args.map e) K
  | .min => opMax false (args.map e) K
  | _ => none
def opRes (C : Ctx E) (o : Op) (e : Operand → AV E.toTys) (rd : Nat → Blk E.toTys) (slot : Nat) (K : KT E R) : Option R := match o with
  | .move x => K (e x) []
  | .assign x => K (e x) []
  | .pick c a b => match e c with
    | .c (.s v) => br v (K (e a) []) (K (e b) [])
    | _ => none
  | .alloc t => opAlloc C t slot K
  | .box _ x => opBox (e x) slot K
  | .build t parts => opBuild C t rd (parts.toList.map fun p => (p.1, e p.2)) K
  | .buildSlice t n parts => opBuildSlice C t n rd (parts.toList.map fun p => (p.1, e p.2)) slot K
  | .load t a => opLoad C t rd (e a) K
  | .store t a v => opStore C t rd (e a) (e v) K
  | .nilCheck x => opNil (e x) K
  | .binOp op t x y _ => opBin (C.eqs t) (C.ty t) op (e x) (e y) K
  | .unOp op _ x => opUn op (e x) K
  | .convert src dst x => opConv C src dst (e x) K
  | .makeSlice t l c => gd (same l c) (opMake C t (e l) slot K)
  | .slice t x lo hi mx => opSlice C t rd (e x) (lo.map e) (hi.map e) (mx.map e) (isZ mx && (isZ lo && isZ hi)) (sameO hi mx) slot K
  | .fieldAddr t x f => opFieldAddr C t f (e x) K
  | .field t x f => opField C t f (e x) K
  | .indexAddr t x i => opIndexAddr (C.ty t) rd (e x) (e i) K
  | .index t x i => match x with
    | .const (.string s) => opStrIx (C.str t) s (e i) K
    | _ => opIndex (C.ty t) (e x) (e i) K
  | .extract x i => opExtract (e x) i K
  | .makeFunc f a b => match a.toList with
    | [] => opMkF f (b.toList.map e) K
    | _ => none
  | .makeInterface t x => opMkI C t (e x) K
  | .typeAssert x _ t ok => opTA C t ok (e x) K
  | .call c => match c.callee with
    | .value x => opVal C x e rd (c.args.toList.map e) slot K
    | .builtin b => opBi C b e rd c.args.toList c.argTypes.toList slot K
    | _ => none
  | _ => none
/-- How many new blocks an operation may make. -/
def needs (C : Ctx E) (o : Op) : Nat := match o with
  | .alloc _ | .box _ _ | .buildSlice .. | .makeSlice .. | .slice .. => 1
  | .call c => match c.callee with
    | .value (.func f) => match C.calls f with
      | some g => ownsG g
      | none => match C.clos f with
        | some _ => 1
        | none => match C.boxes f with
          | some g => nSl (E.fs g.n)
          | none => 0
    | .builtin .append => 1
    | _ => 0
  | _ => 0
end
end Go.Proofs.Ytlamlgfngpmhgaa.V.B
namespace Go.Proofs.Ytlamlgfngpmhgaa.V.B
open Go.RowKit
set_option linter.unusedVariables false
set_option linter.unusedSimpArgs false
/-- From some number of rounds on, g tells r. -/
def Ev {α : Type} (g : Nat → Option α) (r : α) : Prop := ∃ K, ∀ k, K ≤ k → g k = some r
theorem Ev.rounds {α : Type} {g : Nat → Option α} {r : α} (h : Ev g r) : ∃ k, g k = some r := by
  obtain ⟨K, h⟩ := h; exact ⟨K, h K (Nat.le_refl _)⟩
theorem Ev.bind {α β : Type} {g : Nat → Option α} {f : Nat → α → Option β} {a : α} {r : β} (h : Ev g a) (k : Ev (fun n => f n a) r) : Ev (fun n => (g n).bind (f n)) r := by
  obtain ⟨K, h⟩ := h; obtain ⟨L, k⟩ := k
  exact ⟨max K L, fun n hn => by
    show (g n).bind (f n) = _
    rw [h n (Nat.le_trans (Nat.le_max_left _ _) hn)]
    exact k n (Nat.le_trans (Nat.le_max_right _ _) hn)⟩
theorem Ev.step {α : Type} {g f : Nat → Option α} {r : α} (h : ∀ k, g (k + 1) = f k) (k : Ev f r) : Ev g r := by
  obtain ⟨K, k⟩ := k
  exact ⟨K + 1, fun n hn => by
    cases n with
    | zero => omega
    | succ n => rw [h]; exact k n (by omega)⟩
theorem Ev.congr {α : Type} {g f : Nat → Option α} {r : α} (h : ∀ k, g k = f k) (k : Ev f r) : Ev g r := by
  obtain ⟨K, k⟩ := k; exact ⟨K, fun n hn => by rw [h]; exact k n hn⟩
namespace Ev
variable {α β : Type}
theorem ret (r : α) : Ev (fun _ => some r) r := ⟨0, fun _ _ => rfl⟩
theorem ret' {a r : α} (h : a = r) : Ev (fun _ => some a) r := h ▸ Ev.ret a
theorem const {o : Option α} {r : α} (h : o = some r) : Ev (fun _ => o) r := ⟨0, fun _ _ => h⟩
theorem pos {c : Prop} [Decidable c] {f g : Nat → Option α} {r : α} (h : c) (k : Ev f r) : Ev (fun n => if c then f n else g n) r := by
  simp only [if_pos h]; exact k
theorem neg {c : Prop} [Decidable c] {f g : Nat → Option α} {r : α} (h : ¬ c) (k : Ev g r) : Ev (fun n => if c then f n else g n) r := by
  simp only [if_neg h]; exact k
theorem bnd {g : Nat → Option α} {f : Nat → α → Option β} {a : α} {r : β} (h : Ev g a) (k : Ev (fun n => f n a) r) : Ev (fun n => (g n).bind (f n)) r := Ev.bind h k
theorem bnd0 {o : Option α} {f : Nat → α → Option β} {a : α} {r : β} (h : o = some a) (k : Ev (fun n => f n a) r) : Ev (fun n => o.bind (f n)) r := Ev.bind (Ev.const h) k
theorem uniq {g : Nat → Option α} {a b : α} (h : Ev g a) (k : Ev g b) : a = b := by
  obtain ⟨K, hK⟩ := h; obtain ⟨L, hL⟩ := k
  have := hK (max K L) (Nat.le_max_left _ _); rw [hL _ (Nat.le_max_right _ _)] at this
  exact (Option.some.inj this).symm
theorem eqn {g : Nat → Option α} {a b : α} (h : Ev g a) (e : a = b) : Ev g b := e ▸ h
theorem cond {c : Prop} [Decidable c] {f g : Nat → Option α} {a b : α} (h : c → Ev f a) (k : ¬ c → Ev g b) : Ev (fun n => if c then f n else g n) (if c then a else b) := by
  by_cases e : c
  · simp only [if_pos e]; exact h e
  · simp only [if_neg e]; exact k e
theorem both {c : Prop} [Decidable c] {f g : Nat → Option α} {r : α} (h : c → Ev f r) (k : ¬ c → Ev g r) : Ev (fun n => if c then f n else g n) r := by
  by_cases e : c
  · simp only [if_pos e]; exact h e
  · simp only [if_neg e]; exact k e
/-- The functions' 'if not all'. -/
theorem nd {p : Prop} [Decidable p] {f g : Nat → Option α} {r : α} (h : ¬ p → Ev f r) (k : p → Ev g r) : Ev (fun n => if (!decide p) = true then f n else g n) r := by
  by_cases e : p
  · rw [decide_eq_true e]; exact neg (by decide) (k e)
  · rw [decide_eq_false e]; exact pos rfl (h e)
theorem dd {p : Prop} [Decidable p] {f g : Nat → Option α} {r : α} (h : p → Ev f r) (k : ¬ p → Ev g r) : Ev (fun n => if decide p = true then f n else g n) r := by
  by_cases e : p
  · rw [decide_eq_true e]; exact pos rfl (h e)
  · rw [decide_eq_false e]; exact neg (by decide) (k e)
/-- A loop, from its end. -/
theorem down {g : Nat → Nat → Option α} {n : Nat} {r : α} (h0 : Ev (g n) r) (hs : ∀ i, i < n → Ev (g (i + 1)) r → Ev (g i) r) : Ev (g 0) r := by
  have : ∀ d i, i + d = n → Ev (g i) r := by
    intro d
    induction d with
    | zero => intro i hi; have : i = n := by omega
              subst this; exact h0
    | succ d ih => intro i hi; exact hs i (by omega) (ih (i + 1) (by omega))
  exact this n 0 (Nat.zero_add _)
/-- An index is looked at. -/
theorem ix {f : Nat → Option α} {r : α} {i n : Nat} (h : i < n) (k : Ev f r) : Ev (fun q => if (0 : Int) ≤ (i : Int) then if (i : Int) < (n : Int) then f q else none else none) r :=
  Ev.pos (Int.natCast_nonneg _) (Ev.pos (by omega) k)
theorem ixS {β : Type} {l : List β} {f : Nat → Option α} {r : α} {i : Nat} (h : i < l.length) (k : Ev f r) : Ev (fun q => if (0 : Int) ≤ (i : Int) then if (i : Int) < (l.length : Int) then f q else none else none) r := ix h k
end Ev
end Go.Proofs.Ytlamlgfngpmhgaa.V.B
namespace Go.Proofs.Ytlamlgfngpmhgaa.V.B.Ar
open Go.Proofs.Ytlamlgfngpmhgaa.V.B Go.RowKit
set_option linter.unusedVariables false
set_option linter.unusedSimpArgs false
theorem i64_id {x : Int} (h0 : -9223372036854775808 ≤ x) (h1 : x ≤ 9223372036854775807) : IntKind.i64.wrap x = x := by rw [IntKind.wrap_i64]; omega
theorem w64_id {x : Int} (h0 : -9223372036854775808 ≤ x) (h1 : x ≤ 9223372036854775807) : wrap64 x = x := by unfold wrap64; omega
theorem w64_succ {i L : Nat} (h : i < L) (hL : L ≤ 4611686018427387904) : wrap64 ((i : Int) + 1) = ((i + 1 : Nat) : Int) := by rw [w64_id (by omega) (by omega)]; omega
theorem w64_add {i j : Nat} (h : i ≤ 2305843009213693952) (h' : j ≤ 2305843009213693952) : wrap64 ((i : Int) + (j : Int)) = ((i + j : Nat) : Int) := by rw [w64_id (by omega) (by omega)]; omega
theorem w64_sub {i j : Nat} (h : j ≤ i) (h' : i ≤ 4611686018427387904) : wrap64 ((i : Int) - (j : Int)) = ((i - j : Nat) : Int) := by rw [w64_id (by omega) (by omega)]; omega
theorem u64_id {x : Int} (h0 : 0 ≤ x) (h1 : x < 18446744073709551616) : IntKind.u64.wrap x = x := by
  simp [IntKind.wrap, IntKind.bits, IntKind.signed]; omega
theorem shl_i64 (w : Nat) (h : w ≤ 62) : shl .i64 1 (w : Int) = ((2 ^ w : Nat) : Int) := by
  unfold shl
  have h64 : IntKind.i64.bits = 64 := rfl
  rw [h64, Int.toNat_natCast, Nat.min_eq_left (by omega), Int.one_mul]
  have hp : (2 : Nat) ^ w ≤ 2 ^ 62 := Nat.pow_le_pow_right (by decide) h
  have hc : ((2 : Int) ^ w) = ((2 ^ w : Nat) : Int) := by simp
  rw [hc]
  have h62 : (2 : Nat) ^ 62 = 4611686018427387904 := by decide
  generalize 2 ^ w = p at hp ⊢
  exact i64_id (by omega) (by omega)
theorem shl_u64 (w : Nat) (h : w ≤ 63) : shl .u64 1 (w : Int) = ((2 ^ w : Nat) : Int) := by
  unfold shl
  have h64 : IntKind.u64.bits = 64 := rfl
  rw [h64, Int.toNat_natCast, Nat.min_eq_left (by omega), Int.one_mul]
  have hp : (2 : Nat) ^ w ≤ 2 ^ 63 := Nat.pow_le_pow_right (by decide) h
  have hc : ((2 : Int) ^ w) = ((2 ^ w : Nat) : Int) := by simp
  rw [hc]
  have h63 : (2 : Nat) ^ 63 = 9223372036854775808 := by decide
  generalize 2 ^ w = p at hp ⊢
  exact u64_id (by omega) (by omega)
theorem shr_u64 (a w : Nat) (h : w ≤ 64) : shr .u64 (a : Int) (w : Int) = ((a / 2 ^ w : Nat) : Int) := by
  unfold shr
  have h64 : IntKind.u64.bits = 64 := rfl
  rw [h64, Int.toNat_natCast, Nat.min_eq_left h]; simp
theorem shr_i64 (a w : Nat) (h : w ≤ 64) : shr .i64 (a : Int) (w : Int) = ((a / 2 ^ w : Nat) : Int) := by
  unfold shr
  have h64 : IntKind.i64.bits = 64 := rfl
  rw [h64, Int.toNat_natCast, Nat.min_eq_left h]; simp
theorem bits_u64 (op : BinOp) (a b : Nat) (ha : a < 2 ^ 64) (hb : b < 2 ^ 64) :
    (op = .and → Go.bits op .u64 a b = ((a &&& b : Nat) : Int)) ∧ (op = .or → Go.bits op .u64 a b = ((a ||| b : Nat) : Int)) ∧ (op = .xor → Go.bits op .u64 a b = ((a ^^^ b : Nat) : Int)) := by
  have ha' : a % 2 ^ IntKind.u64.bits = a := Nat.mod_eq_of_lt ha
  have hb' : b % 2 ^ IntKind.u64.bits = b := Nat.mod_eq_of_lt hb
  refine ⟨?_, ?_, ?_⟩ <;> rintro rfl <;> simp only [Go.bits, BitVec.ofInt_natCast, BitVec.toNat_and, BitVec.toNat_or, BitVec.toNat_xor, BitVec.toNat_ofNat, ha', hb']
  · exact u64_id (Int.natCast_nonneg _) (by have := Nat.and_lt_two_pow a hb; omega)
  · exact u64_id (Int.natCast_nonneg _) (by have := Nat.or_lt_two_pow ha hb; omega)
  · exact u64_id (Int.natCast_nonneg _) (by have := Nat.xor_lt_two_pow ha hb; omega)
theorem and_u64 (a b : Nat) (ha : a < 2 ^ 64) (hb : b < 2 ^ 64) : Go.bits .and .u64 a b = ((a &&& b : Nat) : Int) := (bits_u64 .and a b ha hb).1 rfl
theorem or_u64 (a b : Nat) (ha : a < 2 ^ 64) (hb : b < 2 ^ 64) : Go.bits .or .u64 a b = ((a ||| b : Nat) : Int) := (bits_u64 .or a b ha hb).2.1 rfl
theorem xor_u64 (a b : Nat) (ha : a < 2 ^ 64) (hb : b < 2 ^ 64) : Go.bits .xor .u64 a b = ((a ^^^ b : Nat) : Int) := (bits_u64 .xor a b ha hb).2.2 rfl
theorem and_i64_mask (x w : Nat) (hx : x < 2 ^ 63) (hw : w ≤ 62) : Go.bits .and .i64 (x : Int) (((2 ^ w : Nat) : Int) - 1) = ((x % 2 ^ w : Nat) : Int) := by
  have := Go.bits_mask .i64 63 (by decide) (fun n h0 h1 => i64_id (by omega) (by omega)) w (by omega) (x : Int) (by omega) (by exact_mod_cast hx)
  have hc : (((2 ^ w : Nat) : Int) - 1) = 2 ^ w - 1 := by simp
  rw [hc, this]; simp
theorem two_pow_le {w : Nat} (h : w ≤ 6) : 2 ^ w ≤ 64 := Nat.pow_le_pow_right (n := 2) (by decide) h
theorem wf_i64 {x : Int} (h : (Lit.int .i64 x).wf = true) : -9223372036854775808 ≤ x ∧ x ≤ 9223372036854775807 := by
  simp only [Lit.wf, IntKind.min, IntKind.max, IntKind.signed, IntKind.bits, Bool.and_eq_true, decide_eq_true_eq] at h; simp at h; omega
theorem wf_u64 {x : Int} (h : (Lit.int .u64 x).wf = true) : 0 ≤ x ∧ x < 18446744073709551616 := by
  simp only [Lit.wf, IntKind.min, IntKind.max, IntKind.signed, IntKind.bits, Bool.and_eq_true, decide_eq_true_eq] at h; simp at h; omega
end Go.Proofs.Ytlamlgfngpmhgaa.V.B.Ar
namespace Go.Proofs.Ytlamlgfngpmhgaa.V.B.Tw
set_option linter.unusedVariables false
set_option linter.unusedSimpArgs false

/-- Level n: a bit, or two halves: the higher one and the lower one. -/
def T : Nat → Type
  | 0 => Bool
  | n + 1 => T n × T n
def zero : (n : Nat) → T n
  | 0 => false
  | n + 1 => (zero n, zero n)
def one : (n : Nat) → T n
  | 0 => true
  | n + 1 => (zero n, one n)
/-- The generator. -/
def gen : (n : Nat) → T n
  | 0 => true
  | n + 1 => (one n, zero n)
def add : {n : Nat} → T n → T n → T n
  | 0, a, b => Bool.xor a b
  | _ + 1, a, b => (add a.1 b.1, add a.2 b.2)
def mul : {n : Nat} → T n → T n → T n
  | 0, a, b => Bool.and a b
  | n + 1, a, b => (add (add (mul a.1 b.2) (mul a.2 b.1)) (mul (gen n) (mul a.1 b.1)), add (mul a.2 b.2) (mul a.1 b.1))
instance {n : Nat} : Add (T n) := ⟨add⟩
instance {n : Nat} : Mul (T n) := ⟨mul⟩
instance {n : Nat} : Zero (T n) := ⟨zero n⟩
instance {n : Nat} : One (T n) := ⟨one n⟩
instance : {n : Nat} → DecidableEq (T n)
  | 0 => inferInstanceAs (DecidableEq Bool)
  | n + 1 => let _ : DecidableEq (T n) := instDecidableEqT; inferInstanceAs (DecidableEq (T n × T n))
theorem add_fst {n : Nat} (a b : T (n + 1)) : (a + b).1 = a.1 + b.1 := rfl
theorem add_snd {n : Nat} (a b : T (n + 1)) : (a + b).2 = a.2 + b.2 := rfl
theorem mul_fst {n : Nat} (a b : T (n + 1)) : (a * b).1 = (a.1 * b.2 + a.2 * b.1) + gen n * (a.1 * b.1) := rfl
theorem mul_snd {n : Nat} (a b : T (n + 1)) : (a * b).2 = a.2 * b.2 + a.1 * b.1 := rfl
theorem zero_fst {n : Nat} : (0 : T (n + 1)).1 = 0 := rfl
theorem zero_snd {n : Nat} : (0 : T (n + 1)).2 = 0 := rfl
theorem one_fst {n : Nat} : (1 : T (n + 1)).1 = 0 := rfl
theorem one_snd {n : Nat} : (1 : T (n + 1)).2 = 1 := rfl
theorem gen_fst {n : Nat} : (gen (n + 1)).1 = 1 := rfl
theorem gen_snd {n : Nat} : (gen (n + 1)).2 = 0 := rfl
theorem gen_zero : gen 0 = 1 := rfl
/-- The element of two halves. -/
def mk {n : Nat} (a b : T n) : T (n + 1) := (a, b)
theorem mk_fst {n : Nat} (a b : T n) : (mk a b).1 = a := rfl
theorem mk_snd {n : Nat} (a b : T n) : (mk a b).2 = b := rfl
theorem ext {n : Nat} {a b : T (n + 1)} (h1 : a.1 = b.1) (h2 : a.2 = b.2) : a = b := Prod.ext h1 h2

theorem add_comm : {n : Nat} → (a b : T n) → a + b = b + a
  | 0, a, b => Bool.xor_comm a b
  | n + 1, a, b => ext (add_comm a.1 b.1) (add_comm a.2 b.2)
theorem add_assoc : {n : Nat} → (a b c : T n) → a + b + c = a + (b + c)
  | 0, a, b, c => Bool.xor_assoc a b c
  | n + 1, a, b, c => ext (add_assoc a.1 b.1 c.1) (add_assoc a.2 b.2 c.2)
theorem zero_add : {n : Nat} → (a : T n) → 0 + a = a
  | 0, a => Bool.false_xor a
  | n + 1, a => ext (zero_add a.1) (zero_add a.2)
theorem add_self : {n : Nat} → (a : T n) → a + a = 0
  | 0, a => Bool.xor_self a
  | n + 1, a => ext (add_self a.1) (add_self a.2)
theorem add_zero {n : Nat} (a : T n) : a + 0 = a := by rw [add_comm, zero_add]
theorem add_left_comm {n : Nat} (a b c : T n) : a + (b + c) = b + (a + c) := by rw [← add_assoc, add_comm a b, add_assoc]
theorem add_add_self {n : Nat} (a b : T n) : a + (a + b) = b := by rw [← add_assoc, add_self, zero_add]
theorem add_cancel_left {n : Nat} {a b c : T n} (h : a + b = a + c) : b = c := by
  have := congrArg (a + ·) h
  simpa only [add_add_self] using this
theorem add_eq_zero {n : Nat} {a b : T n} (h : a + b = 0) : a = b := by
  have := congrArg (· + b) h
  simp only [add_assoc, add_self, add_zero, zero_add] at this
  exact this
theorem eq_add_of {n : Nat} {a b c : T n} (h : a + b = c) : a = c + b := by rw [← h, add_assoc, add_self, add_zero]

/-- The laws of products, all at once. -/
structure Laws (n : Nat) : Prop where
  comm : ∀ a b : T n, a * b = b * a
  zero_mul : ∀ a : T n, 0 * a = 0
  one_mul : ∀ a : T n, 1 * a = a
  mul_add : ∀ a b c : T n, a * (b + c) = a * b + a * c
  assoc : ∀ a b c : T n, a * b * c = a * (b * c)
theorem laws : (n : Nat) → Laws n
  | 0 => ⟨Bool.and_comm, Bool.false_and, Bool.true_and, by intro a b c; cases a <;> cases b <;> cases c <;> rfl, Bool.and_assoc⟩
  | n + 1 => by
    obtain ⟨comm, zmul, omul, madd, massoc⟩ := laws n
    have addm : ∀ a b c : T n, (a + b) * c = a * c + b * c := fun a b c => by rw [comm, madd, comm c a, comm c b]
    have mulz : ∀ a : T n, a * 0 = 0 := fun a => by rw [comm, zmul]
    have mulo : ∀ a : T n, a * 1 = a := fun a => by rw [comm, omul]
    have lcomm : ∀ a b c : T n, a * (b * c) = b * (a * c) := fun a b c => by rw [← massoc, comm a b, massoc]
    refine ⟨fun a b => ext ?_ ?_, fun a => ext ?_ ?_, fun a => ext ?_ ?_, fun a b c => ext ?_ ?_, fun a b c => ext ?_ ?_⟩
    · simp only [mul_fst]; rw [comm a.1 b.2, comm a.2 b.1, comm a.1 b.1, add_comm (b.2 * a.1)]
    · simp only [mul_snd]; rw [comm a.2 b.2, comm a.1 b.1]
    · simp only [mul_fst, zero_fst, zero_snd, zmul, mulz, add_zero]
    · simp only [mul_snd, zero_fst, zero_snd, zmul, mulz, add_zero]
    · simp only [mul_fst, one_fst, one_snd, zmul, mulz, omul, add_zero, zero_add]
    · simp only [mul_snd, one_fst, one_snd, zmul, mulz, omul, add_zero, zero_add]
    · simp only [mul_fst, add_fst, add_snd, madd, addm, add_assoc, add_left_comm, add_comm]
    · simp only [mul_snd, add_fst, add_snd, madd, addm, add_assoc, add_left_comm, add_comm]
    · simp only [mul_fst, mul_snd, madd, addm, massoc, lcomm, comm, add_assoc, add_left_comm, add_comm]
    · simp only [mul_fst, mul_snd, madd, addm, massoc, lcomm, comm, add_assoc, add_left_comm, add_comm]
section
variable {n : Nat} (a b c d : T n)
theorem mul_comm : a * b = b * a := (laws n).comm a b
theorem mul_assoc : a * b * c = a * (b * c) := (laws n).assoc a b c
theorem mul_left_comm : a * (b * c) = b * (a * c) := by rw [← mul_assoc, mul_comm a b, mul_assoc]
theorem zero_mul : 0 * a = 0 := (laws n).zero_mul a
theorem mul_zero : a * 0 = 0 := by rw [mul_comm, zero_mul]
theorem one_mul : 1 * a = a := (laws n).one_mul a
theorem mul_one : a * 1 = a := by rw [mul_comm, one_mul]
theorem mul_add : a * (b + c) = a * b + a * c := (laws n).mul_add a b c
theorem add_mul : (a + b) * c = a * c + b * c := by rw [mul_comm, mul_add, mul_comm c a, mul_comm c b]
theorem add_sq : (a + b) * (a + b) = a * a + b * b := by
  rw [mul_add, add_mul, add_mul, mul_comm b a, add_assoc, ← add_assoc (a * b), add_self, zero_add]
end
end Go.Proofs.Ytlamlgfngpmhgaa.V.B.Tw
namespace Go.Proofs.Ytlamlgfngpmhgaa.V.B.Tw
set_option linter.unusedVariables false
set_option linter.unusedSimpArgs false
/-- How many words of bits an element of a level is: 2 to the power 2^n. -/
def Q (n : Nat) : Nat := 2 ^ 2 ^ n
theorem Q_pos (n : Nat) : 0 < Q n := Nat.two_pow_pos _
theorem Q_succ (n : Nat) : Q (n + 1) = Q n * Q n := by unfold Q; rw [← Nat.pow_add, Nat.pow_succ 2 n, Nat.mul_two]
theorem Q_le_succ (n : Nat) : Q n ≤ Q (n + 1) := by rw [Q_succ]; exact Nat.le_mul_of_pos_left _ (Q_pos n)
theorem Q_mono {m n : Nat} (h : m ≤ n) : Q m ≤ Q n := Nat.pow_le_pow_right (by decide) (Nat.pow_le_pow_right (by decide) h)
theorem Q_six : Q 6 = 2 ^ 64 := rfl
theorem Q_seven : Q 7 = 2 ^ 128 := rfl
def val : {n : Nat} → T n → Nat
  | 0, a => Bool.toNat a
  | n + 1, a => val a.1 * Q n + val a.2
def of : (n : Nat) → Nat → T n
  | 0, x => x % 2 == 1
  | n + 1, x => mk (of n (x / Q n)) (of n (x % Q n))
theorem val_zero_lvl (a : T 0) : val a = Bool.toNat a := rfl
theorem val_succ {n : Nat} (a : T (n + 1)) : val a = val a.1 * Q n + val a.2 := rfl
theorem of_succ (n x : Nat) : of (n + 1) x = mk (of n (x / Q n)) (of n (x % Q n)) := rfl
theorem val_lt : {n : Nat} → (a : T n) → val a < Q n
  | 0, a => by cases a <;> decide
  | n + 1, a => by
    rw [val_succ, Q_succ]
    have h1 := val_lt a.1
    have h2 := val_lt a.2
    have h3 : val a.1 * Q n + Q n ≤ Q n * Q n := by
      have := Nat.mul_le_mul_right (Q n) h1
      rw [Nat.succ_mul] at this; exact this
    omega
theorem val_div {n : Nat} (a : T (n + 1)) : val a / Q n = val a.1 := by
  rw [val_succ, Nat.mul_comm, Nat.mul_add_div (Q_pos n), Nat.div_eq_of_lt (val_lt a.2), Nat.add_zero]
theorem val_mod {n : Nat} (a : T (n + 1)) : val a % Q n = val a.2 := by
  rw [val_succ, Nat.mul_comm, Nat.mul_add_mod, Nat.mod_eq_of_lt (val_lt a.2)]
theorem of_val : {n : Nat} → (a : T n) → of n (val a) = a
  | 0, a => by cases a <;> rfl
  | n + 1, a => by rw [of_succ, val_div, val_mod, of_val a.1, of_val a.2]; rfl
theorem val_of : (n : Nat) → (x : Nat) → x < Q n → val (of n x) = x
  | 0, x, h => by
    have h' : x < 2 := h
    have : x = 0 ∨ x = 1 := by omega
    rcases this with rfl | rfl <;> rfl
  | n + 1, x, h => by
    rw [of_succ, val_succ, mk_fst, mk_snd]
    rw [Q_succ] at h
    rw [val_of n _ (Nat.div_lt_of_lt_mul h), val_of n _ (Nat.mod_lt _ (Q_pos n)), Nat.mul_comm]
    exact Nat.div_add_mod x (Q n)
theorem val_inj {n : Nat} {a b : T n} (h : val a = val b) : a = b := by rw [← of_val a, h, of_val]
theorem val_zero : (n : Nat) → val (0 : T n) = 0
  | 0 => rfl
  | n + 1 => by rw [val_succ, zero_fst, zero_snd, val_zero n, Nat.zero_mul]
theorem val_one : (n : Nat) → val (1 : T n) = 1
  | 0 => rfl
  | n + 1 => by rw [val_succ, one_fst, one_snd, val_zero n, val_one n, Nat.zero_mul]
theorem of_zero (n : Nat) : of n 0 = 0 := by rw [← val_zero n, of_val]
theorem of_one (n : Nat) : of n 1 = 1 := by rw [← val_one n, of_val]
theorem val_eq_zero {n : Nat} {a : T n} : val a = 0 ↔ a = 0 := ⟨fun h => val_inj (h.trans (val_zero n).symm), fun h => by rw [h, val_zero]⟩
theorem xor_join {n a b c d : Nat} (hb : b < Q n) (hd : d < Q n) : (a * Q n + b) ^^^ (c * Q n + d) = (a ^^^ c) * Q n + (b ^^^ d) := by
  have h1 : ((a * Q n + b) ^^^ (c * Q n + d)) / Q n = a ^^^ c := by
    unfold Q at *
    rw [Nat.xor_div_two_pow, Nat.mul_comm a, Nat.mul_comm c, Nat.mul_add_div (Nat.two_pow_pos _), Nat.mul_add_div (Nat.two_pow_pos _), Nat.div_eq_of_lt hb, Nat.div_eq_of_lt hd]; rfl
  have h2 : ((a * Q n + b) ^^^ (c * Q n + d)) % Q n = b ^^^ d := by
    unfold Q at *
    rw [Nat.xor_mod_two_pow, Nat.mul_comm a, Nat.mul_comm c, Nat.mul_add_mod, Nat.mul_add_mod, Nat.mod_eq_of_lt hb, Nat.mod_eq_of_lt hd]
  have := Nat.div_add_mod ((a * Q n + b) ^^^ (c * Q n + d)) (Q n)
  rw [h1, h2, Nat.mul_comm] at this
  exact this.symm
theorem val_add : {n : Nat} → (a b : T n) → val (a + b) = val a ^^^ val b
  | 0, a, b => by cases a <;> cases b <;> rfl
  | n + 1, a, b => by
    rw [val_succ, val_succ, val_succ, add_fst, add_snd, val_add a.1 b.1, val_add a.2 b.2, xor_join (val_lt _) (val_lt _)]
theorem xor_lt {n x y : Nat} (hx : x < Q n) (hy : y < Q n) : x ^^^ y < Q n := Nat.xor_lt_two_pow hx hy
theorem of_xor {n x y : Nat} (hx : x < Q n) (hy : y < Q n) : of n (x ^^^ y) = of n x + of n y :=
  val_inj (by rw [val_of _ _ (xor_lt hx hy), val_add, val_of _ _ hx, val_of _ _ hy])
/-- A number of a lower level: the higher half is 0. -/
theorem of_low {n x : Nat} (h : x < Q n) : of (n + 1) x = mk 0 (of n x) := by
  rw [of_succ, Nat.div_eq_of_lt h, Nat.mod_eq_of_lt h, of_zero]
/-- One level up. -/
def up {n : Nat} (a : T n) : T (n + 1) := mk 0 a
theorem up_fst {n : Nat} (a : T n) : (up a).1 = 0 := rfl
theorem up_snd {n : Nat} (a : T n) : (up a).2 = a := rfl
theorem val_up {n : Nat} (a : T n) : val (up a) = val a := by rw [val_succ, up_fst, up_snd, val_zero, Nat.zero_mul, Nat.zero_add]
theorem up_add {n : Nat} (a b : T n) : up (a + b) = up a + up b := ext (by rw [add_fst, up_fst, up_fst, up_fst, add_zero]) rfl
theorem up_mul {n : Nat} (a b : T n) : up (a * b) = up a * up b :=
  ext (by simp only [mul_fst, up_fst, up_snd, zero_mul, mul_zero, add_zero]) (by simp only [mul_snd, up_fst, up_snd, zero_mul, add_zero])
theorem up_mul_any {n : Nat} (a : T n) (b : T (n + 1)) : up a * b = mk (a * b.1) (a * b.2) :=
  ext (by simp only [mul_fst, up_fst, up_snd, zero_mul, mul_zero, add_zero, zero_add, mk_fst]) (by simp only [mul_snd, up_fst, up_snd, zero_mul, add_zero, mk_snd])
theorem up_zero (n : Nat) : up (0 : T n) = 0 := rfl
theorem up_one (n : Nat) : up (1 : T n) = 1 := rfl
theorem up_inj {n : Nat} {a b : T n} (h : up a = up b) : a = b := congrArg (fun x : T (n + 1) => x.2) h
/-- Many levels up. -/
def ups {n : Nat} : (d : Nat) → T n → T (n + d)
  | 0, a => a
  | d + 1, a => up (ups d a)
theorem ups_add {n : Nat} (a b : T n) : (d : Nat) → ups d (a + b) = ups d a + ups d b
  | 0 => rfl
  | d + 1 => by show up (ups d (a + b)) = _; rw [ups_add a b d, up_add]; rfl
theorem ups_mul {n : Nat} (a b : T n) : (d : Nat) → ups d (a * b) = ups d a * ups d b
  | 0 => rfl
  | d + 1 => by show up (ups d (a * b)) = _; rw [ups_mul a b d, up_mul]; rfl
theorem val_ups {n : Nat} (a : T n) : (d : Nat) → val (ups d a) = val a
  | 0 => rfl
  | d + 1 => by show val (up (ups d a)) = _; rw [val_up, val_ups a d]
theorem ups_zero {n : Nat} (d : Nat) : ups d (0 : T n) = 0 := val_inj (by rw [val_ups, val_zero, val_zero])
theorem ups_one {n : Nat} (d : Nat) : ups d (1 : T n) = 1 := val_inj (by rw [val_ups, val_one, val_one])
theorem ups_of {n d x : Nat} (h : x < Q n) : ups d (of n x) = of (n + d) x := val_inj (by rw [val_ups, val_of _ _ h, val_of _ _ (Nat.lt_of_lt_of_le h (Q_mono (Nat.le_add_right _ _)))])
/-- Products of numbers of a lower level are of it. -/
theorem val_mul_low {n d x y : Nat} (hx : x < Q n) (hy : y < Q n) : val (of (n + d) x * of (n + d) y) = val (of n x * of n y) := by
  rw [← ups_of hx, ← ups_of hy, ← ups_mul, val_ups]
theorem val_mul_level {l m x y : Nat} (h : l ≤ m) (hx : x < Q l) (hy : y < Q l) : val (of m x * of m y) = val (of l x * of l y) := by
  obtain ⟨d, rfl⟩ := Nat.le.dest h
  exact val_mul_low hx hy
theorem val_mul_lt {l m x y : Nat} (h : l ≤ m) (hx : x < Q l) (hy : y < Q l) : val (of m x * of m y) < Q l := by
  rw [val_mul_level h hx hy]; exact val_lt _
end Go.Proofs.Ytlamlgfngpmhgaa.V.B.Tw
namespace Go.Proofs.Ytlamlgfngpmhgaa.V.B
set_option linter.unusedVariables false
section
variable {E : Env} {R : Type}
def cstS (v : Value) : SV E.toTys := match v with
  | .int k n => .val (.int k) n
  | .bool b => .val .bool b
  | .slice none 0 0 => .emp
  | .pointer none => .nilp
  | .nilIface => .val .any none
  | _ => .dead
def ev (tm : List (AV E.toTys)) (x : Operand) : AV E.toTys := match x with
  | .tmp t => nth (.c (.s .dead)) tm t
  | .const (.agg cs) => if cs.all (·.oneCell') then .c (.agg (cs.toList.map cstS)) else .c (.s .dead)
  | .const v => .c (.s (cstS v))
  | .func f => .c (.s (.fn f))
  | .global _ => .c (.s .dead)
def putT (tm : List (AV E.toTys)) (d : Option Nat) (v : AV E.toTys) : List (AV E.toTys) := match d with
  | some d => put1 tm d v
  | none => tm
def app (mem : List (Blk E.toTys)) : List (Nat × Blk E.toTys) → List (Blk E.toTys)
  | [] => mem
  | (i, b) :: us => app (put1 mem i b) us
def isFree (b : Blk E.toTys) : Bool := match b with
  | .free => true
  | _ => false
/-- The new blocks' places are free. -/
def frees (mem : List (Blk E.toTys)) : Nat → Nat → Bool
  | _, 0 => true
  | s, n + 1 => isFree (nth .gone mem s) && frees mem (s + 1) n
/-- Each update is of a block of these places, or, where it may, of one that is there. -/
def mayU (wr : Nat → Bool) (mem : List (Blk E.toTys)) (s n : Nat) : List (Nat × Blk E.toTys) → Bool
  | [] => true
  | (i, _) :: us => ((Nat.ble s i && Nat.blt i (s + n)) || (wr i && !isFree (nth .free mem i))) && mayU wr mem s n us
def rdm (al : Nat → Bool) (mem : List (Blk E.toTys)) (id : Nat) : Blk E.toTys := if al id then nth .gone mem id else .gone
def look (t : Nat) : List (Nat × Bool) → Option Bool
  | [] => none
  | (i, b) :: r => if Nat.beq i t then some b else look t r
def drop1 (d : Option Nat) : List (Nat × Bool) → List (Nat × Bool)
  | [] => []
  | (i, b) :: r => match d with
    | some t => if Nat.beq i t then drop1 d r else (i, b) :: drop1 d r
    | none => (i, b) :: r
/-- An operation with its place for new blocks, what it may look at, and whether it may write. -/
structure Opx where
  o : Oper
  slot : Nat
  al : Nat → Bool
  wr : Nat → Bool
def doOp (C : Ctx E) (x : Opx) (kn : List (Nat × Bool)) (st : St E.toTys) (K : List (Nat × Bool) → St E.toTys → Option R) : Option R :=
  let go := gd (frees st.mem x.slot (needs C x.o.op)) (opRes C x.o.op (ev st.tmps) (rdm x.al st.mem) x.slot fun v us =>
    gd (mayU x.wr st.mem x.slot (needs C x.o.op) us) (K (drop1 x.o.dst kn) ⟨putT st.tmps x.o.dst v, app st.mem us⟩))
  match x.o.op with
  | .pick (.tmp c) a b => match look c kn with
    | some true => K (drop1 x.o.dst kn) ⟨putT st.tmps x.o.dst (ev st.tmps a), st.mem⟩
    | some false => K (drop1 x.o.dst kn) ⟨putT st.tmps x.o.dst (ev st.tmps b), st.mem⟩
    | none => go
  | _ => go
def skOp (x : Opx) (kn : List (Nat × Bool)) (st : St E.toTys) (K : List (Nat × Bool) → St E.toTys → Option R) : Option R :=
  K (drop1 x.o.dst kn) ⟨putT st.tmps x.o.dst (.tup []), st.mem⟩
def gdT (ops : List Oper) (j : Nat) : Option Nat := match ops[j]? with
  | some o => o.dst
  | none => none
def runOp (C : Ctx E) (ops : List Oper) (x : Opx) (kn : List (Nat × Bool)) (st : St E.toTys) (K : List (Nat × Bool) → St E.toTys → Option R) : Option R := match x.o.guard with
  | none => doOp C x kn st K
  | some (j, want) => match gdT ops j with
    | some t => match look t kn with
      | some b => match b, want with
        | true, true => doOp C x kn st K
        | false, false => doOp C x kn st K
        | true, false => skOp x kn st K
        | false, true => skOp x kn st K
      | none => match nth (.c (.s .dead)) st.tmps t with
        | .c (.s v) => match want with
          | true => br v (doOp C x ((t, true) :: kn) st K) (skOp x ((t, false) :: kn) st K)
          | false => br v (skOp x ((t, true) :: kn) st K) (doOp C x ((t, false) :: kn) st K)
        | .tup [] => skOp x kn st K
        | _ => none
    | none => none
def runOps (C : Ctx E) (ops : List Oper) : List Opx → List (Nat × Bool) → St E.toTys → (St E.toTys → Option R) → Option R
  | [], _, st, K => K st
  | x :: xs, kn, st, K => runOp C ops x kn st fun kn st => runOps C ops xs kn st K
/-- The operations of a region that is done in order. -/
def opx (C : Ctx E) : List Oper → Nat → List Opx
  | [], _ => []
  | o :: os, s => ⟨o, s, fun _ => true, fun _ => true⟩ :: opx C os (s + needs C o.op)
def total (C : Ctx E) : List Oper → Nat
  | [] => 0
  | o :: os => needs C o.op + total C os
/-! ### Regions that are done in any order -/
def bit (m j : Nat) : Bool := Nat.beq (Nat.land (Nat.shiftRight m j) 1) 1
def msk (ms : List Nat) : List Edge → Nat
  | [] => 0
  | e :: es => if Region.binds .any e then Nat.lor (Nat.lor (Nat.shiftLeft 1 e.on) (nth 0 ms e.on)) (msk ms es) else msk ms es
/-- What each operation comes after. -/
def msks : List Nat → List Oper → List Nat
  | acc, [] => acc
  | acc, o :: os => msks (cat acc [msk acc o.after.toList]) os
def chkM (ms : List Nat) : List Oper → List Nat → Bool
  | [], [] => true
  | o :: os, m :: r => Nat.beq m (msk ms o.after.toList) && chkM ms os r
  | _, _ => false
def back (i : Nat) : List Edge → Bool
  | [] => true
  | e :: es => (!Region.binds .any e || Nat.blt e.on i) && back i es
def backs : List Oper → Nat → Bool
  | [], _ => true
  | o :: os, i => back i o.after.toList && backs os (i + 1)
def opnds : Op → List Operand
  | .move x => [x]
  | .assign x => [x]
  | .box _ x => [x]
  | .makeInterface _ x => [x]
  | .typeAssert x _ _ _ => [x]
  | .load _ x => [x]
  | .nilCheck x => [x]
  | .unOp _ _ x => [x]
  | .convert _ _ x => [x]
  | .fieldAddr _ x _ => [x]
  | .field _ x _ => [x]
  | .extract x _ => [x]
  | .pick c a b => [c, a, b]
  | .build _ ps => ps.toList.map (·.2)
  | .buildSlice _ _ ps => ps.toList.map (·.2)
  | .store _ a v => [a, v]
  | .binOp _ _ a v _ => [a, v]
  | .makeSlice _ a v => [a, v]
  | .indexAddr _ a v => [a, v]
  | .index _ a v => [a, v]
  | .slice _ x l h m => x :: cat l.toList (cat h.toList m.toList)
  | .makeFunc _ _ b => b.toList
  | .call c => match c.callee with
    | .value x => x :: c.args.toList
    | _ => c.args.toList
  | _ => []
def tms : List Operand → List Nat
  | [] => []
  | .tmp t :: r => t :: tms r
  | _ :: r => tms r
def lookT (ops : List Oper) (o : Oper) : List Nat := match o.guard with
  | some (j, _) => match gdT ops j with
    | some t => t :: tms (opnds o.op)
    | none => tms (opnds o.op)
  | none => tms (opnds o.op)
def inN (i : Nat) : List Nat → Bool
  | [] => false
  | j :: r => Nat.beq i j || inN i r
def offD (d : Option Nat) (l : List Nat) : Bool := match d with
  | some d => !inN d l
  | none => true
def neD (d e : Option Nat) : Bool := match d, e with
  | some d, some e => !Nat.beq d e
  | _, _ => true
/-- Does not look at memory. -/
def quiet : Op → Bool
  | .move _ => true
  | .assign _ => true
  | .box _ _ => true
  | .nilCheck _ => true
  | .unOp .. => true
  | .convert .. => true
  | .fieldAddr .. => true
  | .field .. => true
  | .extract .. => true
  | .pick .. => true
  | .binOp .. => true
  | .makeSlice .. => true
  | .index .. => true
  | .alloc _ => true
  | .makeFunc .. => true
  | .makeInterface .. => true
  | .typeAssert .. => true
  | _ => false
def apart1 (ops : List Oper) (x y : Oper) : Bool := offD x.dst (lookT ops y) && neD x.dst y.dst && offD y.dst (lookT ops x)
def aparts1 (ops : List Oper) (m : Nat) (y : Oper) : List Oper → Nat → Bool
  | [], _ => true
  | x :: xs, u => (bit m u || apart1 ops x y) && aparts1 ops m y xs (u + 1)
def aparts (ops : List Oper) (ms : List Nat) : List Oper → Nat → List Oper → Bool
  | _, _, [] => true
  | pre, i, o :: os => aparts1 ops (nth 0 ms i) o pre 0 && aparts ops ms (cat pre [o]) (i + 1) os
def slots (C : Ctx E) : List Oper → Nat → List (Nat × Nat)
  | [], _ => []
  | o :: os, s => (s, needs C o.op) :: slots C os (s + needs C o.op)
def inSl (m id : Nat) : List (Nat × Nat) → Nat → Bool
  | [], _ => false
  | (s, n) :: r, j => (bit m j && (Nat.ble s id && Nat.blt id (s + n))) || inSl m id r (j + 1)
def noW (pm : Nat → Nat → Bool) (ms : List Nat) (i id : Nat) : List Oper → Nat → Bool
  | [], _ => true
  | o :: os, j => (Nat.beq i j || bit (nth 0 ms i) j || bit (nth 0 ms j) i || quiet o.op || !pm j id) && noW pm ms i id os (j + 1)
def noWj (ms : List Nat) (i j : Nat) : List Oper → Nat → Bool
  | [], _ => true
  | o :: os, u => (Nat.beq i u || bit (nth 0 ms i) u || bit (nth 0 ms u) i || quiet o.op || !bit (nth 0 ms u) j) && noWj ms i j os (u + 1)
def inSlw (ops : List Oper) (ms : List Nat) (i id : Nat) : List (Nat × Nat) → Nat → Bool
  | [], _ => false
  | (s, n) :: r, j => (bit (nth 0 ms i) j && (Nat.ble s id && Nat.blt id (s + n)) && noWj ms i j ops 0) || inSlw ops ms i id r (j + 1)
/-- (pm: which of the blocks that are there an operation may look at.) -/
def dx (pm : Nat → Nat → Bool) (ops : List Oper) (ms : List Nat) (sl : List (Nat × Nat)) (base i : Nat) (o : Oper) : Opx :=
  ⟨o, (nth (0, 0) sl i).1, fun id => (Nat.blt id base && pm i id) || inSl (nth 0 ms i) id sl 0, fun id => !quiet o.op && ((Nat.blt id base && (pm i id && noW pm ms i id ops 0)) || inSlw ops ms i id sl 0)⟩
def dopx (pm : Nat → Nat → Bool) (ops : List Oper) (ms : List Nat) (sl : List (Nat × Nat)) (base : Nat) : List Oper → Nat → List Opx
  | [], _ => []
  | o :: os, i => dx pm ops ms sl base i o :: dopx pm ops ms sl base os (i + 1)
def drawOK (ops : List Oper) (ms : List Nat) : Bool := backs ops 0 && chkM ms ops ms && aparts ops ms [] 0 ops
def regC (C : Ctx E) (id : Nat) (ops : Array Oper) (draw : Bool) (st : St E.toTys) (K : St E.toTys → Option R) : Option R := match draw with
  | false => runOps C ops.toList (opx C ops.toList (len st.mem)) [] ⟨st.tmps, cat st.mem (rep (total C ops.toList) .free)⟩ K
  | true => match drawOK ops.toList (msks [] ops.toList) with
    | true => runOps C ops.toList (dopx (C.pm id) ops.toList (msks [] ops.toList) (slots C ops.toList (len st.mem)) (len st.mem) ops.toList 0) [] ⟨st.tmps, cat st.mem (rep (total C ops.toList) .free)⟩ K
    | false => none
/-- The first region of a code. -/
def hd : Code → Option Nat
  | .region id _ _ => some id
  | .seq a b => match hd a with
    | some i => some i
    | none => hd b
  | .block _ c => hd c
  | .loop c => match hd c with
    | some i => some (i + 1000)
    | none => none
  | .scope c => hd c
  | .cond _ a b => match hd a with
    | some i => some i
    | none => hd b
  | _ => none
structure Stops (E : Env) (R : Type) where
  isJ : Nat → Bool
  isL : Nat → Bool
  goJ : Nat → St E.toTys → Option R
  goL : Nat → St E.toTys → Option R
  fin : St E.toTys → Option R
def exec (C : Ctx E) (G : Stops E R) : Nat → List Item → St E.toTys → Option R
  | 0, _, _ => none
  | _ + 1, [], st => G.fin st
  | n + 1, .code c :: k, st => match c with
    | .skip => exec C G n k st
    | .seq a b => exec C G n (.code a :: .code b :: k) st
    | .cond x a b => match ev st.tmps x with
      | .c (.s v) => br v (exec C G n (.code a :: k) st) (exec C G n (.code b :: k) st)
      | _ => none
    | .block id c => exec C G n (.code c :: .inBlock id :: k) st
    | .loop c => match hd c with
      | some id => match G.isL id with
        | true => G.goL id st
        | false => none
      | none => none
    | .exit id => match exitTo id k with
      | some k' => exec C G n k' st
      | none => none
    | .ret => G.fin st
    | .region id ops draw => match G.isJ id with
      | true => G.goJ id st
      | false => regC C id ops draw st (exec C G n k)
    | .scope c => exec C G n (.code c :: .inScope c :: k) st
    | .label _ => exec C G n k st
    | .goto l => match gotoIn l k with
      | some k' => exec C G n k' st
      | none => none
    | _ => none
  | n + 1, .inBlock _ :: k, st => exec C G n k st
  | n + 1, .inScope _ :: k, st => exec C G n k st
  | _ + 1, .inLoop c :: k, st => match hd c with
    | some id => match G.isL id with
      | true => G.goL id st
      | false => none
    | none => none
  | _ + 1, _, _ => none
/-- From a place on. -/
def start (C : Ctx E) (G : Stops E R) (n : Nat) (k : List Item) (st : St E.toTys) : Option R := match k with
  | .code (.region id ops draw) :: k => regC C id ops draw st (exec C G n k)
  | .code (.seq (.region id ops draw) b) :: k => regC C id ops draw st (exec C G n (.code b :: k))
  | k => exec C G n k st
/-! ### Patterns -/
inductive Sl where
  | dead
  | val (t : Ty)
  | ref (j : Nat)
  | ptr (j off : Nat)
inductive PA where
  | one (s : Sl)
  | agg (l : List Sl)
  | arr (n : Nat) (t : Ty)
  | clo (f : Nat) (l : List Sl)
inductive PM where
  | var (l : List Sl)
  | arr (t : Ty)
  | avar (n : Nat) (t : Ty)
/-- With io the first block is the one that the call writes. -/
structure Pat where
  tm : List PA
  mem : List PM
  io : Bool
@[reducible] def PayS (T : Tys) : List Sl → Type
  | [] => Unit
  | .val t :: r => den T t × PayS T r
  | .dead :: r => PayS T r
  | .ref _ :: r => PayS T r
  | .ptr _ _ :: r => PayS T r
@[reducible] def PayT (T : Tys) : List PA → Type
  | [] => Unit
  | .one (.val t) :: r => den T t × PayT T r
  | .one .dead :: r => PayT T r
  | .one (.ref _) :: r => PayT T r
  | .one (.ptr _ _) :: r => PayT T r
  | .agg l :: r => PayS T l × PayT T r
  | .arr _ t :: r => List (den T t) × PayT T r
  | .clo _ l :: r => PayS T l × PayT T r
@[reducible] def PayM (T : Tys) : List PM → Type
  | [] => Unit
  | .var l :: r => PayS T l × PayM T r
  | .arr t :: r => List (den T t) × PayM T r
  | .avar _ t :: r => List (den T t) × PayM T r
@[reducible] def Pay (T : Tys) (p : Pat) : Type := PayT T p.tm × PayM T p.mem
def bS {T : Tys} : (l : List Sl) → PayS T l → List (SV T)
  | [], _ => []
  | .val t :: r, x => .val t x.1 :: bS r x.2
  | .dead :: r, x => .dead :: bS r x
  | .ref j :: r, x => .ref j :: bS r x
  | .ptr j o :: r, x => .ptr j o :: bS r x
def bT {T : Tys} : (l : List PA) → PayT T l → List (AV T)
  | [], _ => []
  | .one (.val t) :: r, x => .c (.s (.val t x.1)) :: bT r x.2
  | .one .dead :: r, x => .c (.s .dead) :: bT r x
  | .one (.ref j) :: r, x => .c (.s (.ref j)) :: bT r x
  | .one (.ptr j o) :: r, x => .c (.s (.ptr j o)) :: bT r x
  | .agg l :: r, x => .c (.agg (bS l x.1)) :: bT r x.2
  | .arr n t :: r, x => .arr n t x.1 :: bT r x.2
  | .clo f l :: r, x => .clo f ((bS l x.1).map .s) :: bT r x.2
def bM {T : Tys} : (l : List PM) → PayM T l → List (Blk T)
  | [], _ => []
  | .var l :: r, x => .var (bS l x.1) :: bM r x.2
  | .arr t :: r, x => .arr t x.1 :: bM r x.2
  | .avar n t :: r, x => .avar n t x.1 :: bM r x.2
def build {T : Tys} (p : Pat) (x : Pay T p) : St T := ⟨bT p.tm x.1, bM p.mem x.2⟩
/-- Which block of the state stands for a block of the pattern: not known yet, one, or an empty list. -/
inductive Ent where
  | no
  | id (i : Nat)
  | nil
def setE (en : List Ent) (j : Nat) (v : SV E.toTys) : Option (List Ent) := match v with
  | .ref i => match nth .nil en j with
    | .no => some (put1 en j (.id i))
    | .id i' => if Nat.beq i i' then some en else none
    | .nil => none
  | .emp => match nth .nil en j with
    | .no => some (put1 en j .nil)
    | _ => none
  | _ => none
def setP (en : List Ent) (j off : Nat) (v : SV E.toTys) : Option (List Ent) := match v with
  | .ptr i o => if Nat.beq o off then match nth .nil en j with
      | .no => some (put1 en j (.id i))
      | .id i' => if Nat.beq i i' then some en else none
      | .nil => none
    else none
  | _ => none
def mS : (l : List Sl) → List Ent → List (SV E.toTys) → Option (PayS E.toTys l × List Ent)
  | [], en, [] => some ((), en)
  | .dead :: r, en, _ :: vs => mS r en vs
  | .val t :: r, en, v :: vs => match expS0 (fun _ => .gone) t v, mS r en vs with
    | some x, some (y, en) => some ((x, y), en)
    | _, _ => none
  | .ref j :: r, en, v :: vs => match setE en j v with
    | some en => mS r en vs
    | none => none
  | .ptr j o :: r, en, v :: vs => match setP en j o v with
    | some en => mS r en vs
    | none => none
  | _, _, _ => none
/-- What a function has taken along, cell by cell. -/
def unS {T : Tys} : List (CV T) → Option (List (SV T))
  | [] => some []
  | .s .dead :: _ => none
  | .s v :: r => match unS r with
    | some l => some (v :: l)
    | none => none
  | .agg _ :: _ => none
def mT (mem : List (Blk E.toTys)) : (l : List PA) → List Ent → List (AV E.toTys) → Option (PayT E.toTys l × List Ent)
  | [], en, [] => some ((), en)
  | .one .dead :: r, en, _ :: vs => mT mem r en vs
  | .one (.val t) :: r, en, .c (.s v) :: vs => match expS0 (fun id => nth .gone mem id) t v, mT mem r en vs with
    | some x, some (y, en) => some ((x, y), en)
    | _, _ => none
  | .one (.ref j) :: r, en, .c (.s v) :: vs => match setE en j v with
    | some en => mT mem r en vs
    | none => none
  | .one (.ptr j o) :: r, en, .c (.s v) :: vs => match setP en j o v with
    | some en => mT mem r en vs
    | none => none
  | .agg l :: r, en, .c (.agg cs) :: vs => match mS l en cs with
    | some (x, en) => match mT mem r en vs with
      | some (y, en) => some ((x, y), en)
      | none => none
    | none => none
  | .arr n t :: r, en, .arr m u xs :: vs => match conv (.arr m u) (.arr n t) xs, mT mem r en vs with
    | some x, some (y, en) => some ((x, y), en)
    | _, _ => none
  | .clo f l :: r, en, .clo g cs :: vs => match Nat.beq f g, unS cs with
    | true, some ws => match mS l en ws with
      | some (x, en) => match mT mem r en vs with
        | some (y, en) => some ((x, y), en)
        | none => none
      | none => none
    | _, _ => none
  | _, _, _ => none
/-- The call's own lists that are taken as what they hold. -/
def rdT : List PA → List (AV E.toTys) → List Nat
  | .one (.val _) :: r, .c (.s (.ref id)) :: vs => id :: rdT r vs
  | _ :: r, _ :: vs => rdT r vs
  | _, _ => []
def mM (mem : List (Blk E.toTys)) : (l : List PM) → Nat → List Ent → Option (PayM E.toTys l × List Ent)
  | [], _, en => some ((), en)
  | .var l :: r, j, en => match nth .nil en j with
    | .id i => match nth .gone mem i with
      | .var cs => match mS l en cs with
        | some (x, en) => match mM mem r (j + 1) en with
          | some (y, en) => some ((x, y), en)
          | none => none
        | none => none
      | _ => none
    | _ => none
  | .arr t :: r, j, en => match nth .no en j with
    | .id i => match nth .gone mem i with
      | .arr u xs => match conv (.slice u) (.slice t) xs, mM mem r (j + 1) en with
        | some x, some (y, en) => some ((x, y), en)
        | _, _ => none
      | _ => none
    | .nil => match mM mem r (j + 1) en with
      | some (y, en) => some (([], y), en)
      | none => none
    | .no => none
  | .avar n t :: r, j, en => match nth .nil en j with
    | .id i => match nth .gone mem i with
      | .avar m u xs => match conv (.arr m u) (.arr n t) xs, mM mem r (j + 1) en with
        | some x, some (y, en) => some ((x, y), en)
        | _, _ => none
      | _ => none
    | _ => none
def notIn (i : Nat) : List Ent → Bool
  | [] => true
  | .id j :: r => !Nat.beq i j && notIn i r
  | _ :: r => notIn i r
def apart : List Ent → Bool
  | [] => true
  | .id i :: r => notIn i r && apart r
  | _ :: r => apart r
def offL : List Nat → List Ent → Bool
  | [], _ => true
  | i :: l, en => notIn i en && offL l en
def ents (p : Pat) : List Ent := match p.io with
  | true => put1 (rep (len p.mem) .no) 0 (.id 0)
  | false => rep (len p.mem) .no
def matchP (p : Pat) (st : St E.toTys) : Option (Pay E.toTys p) := match mT st.mem p.tm (ents p) st.tmps with
  | some (x, en) => match mM st.mem p.mem 0 en with
    | some (y, en) => if apart en && offL (rdT p.tm st.tmps) en then some (x, y) else none
    | none => none
  | none => none
/-! ### Results -/
def ids : List (SV E.toTys) → List Nat
  | [] => []
  | .ref id :: r => id :: ids r
  | .ptr id _ :: r => id :: ids r
  | _ :: r => ids r
def idsA : List (AV E.toTys) → List Nat
  | [] => []
  | .c v :: r => cat (ids (cells v)) (idsA r)
  | _ :: r => idsA r
def finO (rd : Nat → Blk E.toTys) (u : Ty) (v : AV E.toTys) : Option (List (den E.toTys u)) := match v with
  | .c (.s .emp) => some []
  | .c (.s (.ref id)) => match rd id with
    | .arr u' xs => conv (.slice u') (.slice u) xs
    | _ => none
  | _ => none
def expF (rd : Nat → Blk E.toTys) (t : Ty) (v : AV E.toTys) : Option (den E.toTys t) := match v with
  | .clo _ _ => none
  | v => expA rd t v
def fin1 (rd : Nat → Blk E.toTys) (b : Bool) (t : Ty) (v : AV E.toTys) : Option (den E.toTys t) := match b, t with
  | true, .slice u => finO rd u v
  | _, t => expF rd t v
def finR (rd : Nat → Blk E.toTys) : (rs : List (Bool × Ty)) → List (AV E.toTys) → Option (RT E.toTys rs)
  | [], [] => some ()
  | [(b, t)], [v] => fin1 rd b t v
  | (b, t) :: r :: rs, v :: vs => match fin1 rd b t v, finR rd (r :: rs) vs with
    | some x, some y => some (x, y)
    | _, _ => none
  | _, _ => none
def resv (C : Ctx E) (st : St E.toTys) : List ResultVar → Option (List (AV E.toTys))
  | [] => some []
  | .tmp t :: r => match resv C st r with
    | some l => some (nth (.c (.s .dead)) st.tmps t :: l)
    | none => none
  | .cell a t :: r => match opLoad C t (fun id => nth .gone st.mem id) (nth (.c (.s .dead)) st.tmps a) (fun v _ => some v), resv C st r with
    | some v, some l => some (v :: l)
    | _, _ => none
def fin (C : Ctx E) (res : List ResultVar) (rs : List (Bool × Ty)) (st : St E.toTys) : Option (RT E.toTys rs) := match resv C st res with
  | some l => match distN (idsA l), owns rs, noPtr (refsA l) with
    | true, 0, _ => finR (fun id => nth .gone st.mem id) rs l
    | true, _, true => finR (fun id => nth .gone st.mem id) rs l
    | _, _, _ => none
  | none => none
/-- What a function begins with. -/
def ini (E : Env) : (ts : List Ty) → HL E.toTys ts → List (AV E.toTys)
  | [], _ => []
  | t :: ts, x => oneA E t x.1 :: ini E ts x.2
/-- .. that writes one of its arguments. -/
def ioRef (T : Tys) (t : Ty) : AV T := match t with
  | .slice _ => .c (.s (.ref 0))
  | _ => .c (.s (.ptr 0 0))
def iniIO (E : Env) : Nat → (ts : List Ty) → HL E.toTys ts → List (AV E.toTys)
  | _, [], _ => []
  | 0, t :: ts, x => ioRef E.toTys t :: ini E ts x.2
  | n + 1, t :: ts, x => oneA E t x.1 :: iniIO E n ts x.2
def argAt (t : Ty) : Nat → (ts : List Ty) → HL E.toTys ts → Option (den E.toTys t)
  | _, [], _ => none
  | 0, t' :: _, x => conv t' t x.1
  | n + 1, _ :: ts, x => argAt t n ts x.2
def iniM (t : Ty) (p : Nat) (ts : List Ty) (x : HL E.toTys ts) : Option (Blk E.toTys) := match argAt t p ts x with
  | some y => ioBlk t y
  | none => none
def finIO (C : Ctx E) (res : List ResultVar) (t : Ty) (rs : List (Bool × Ty)) (st : St E.toTys) : Option (RT E.toTys ((true, t) :: rs)) := match ioFlat E t && (flatR E rs && Nat.beq (owns rs) 0) with
  | true => match ioRd (fun id => nth .gone st.mem id) t 0, fin C res rs st with
    | some y, some z => some (rtMk (a := (true, t)) y z)
    | _, _ => none
  | false => none
end
end Go.Proofs.Ytlamlgfngpmhgaa.V.B
namespace Go.Proofs.Ytlamlgfngpmhgaa.V.B
set_option linter.unusedVariables false
inductive All2 {α β : Type} (R : α → β → Prop) : List α → List β → Prop where
  | nil : All2 R [] []
  | cons {a b l m} : R a b → All2 R l m → All2 R (a :: l) (b :: m)
namespace All2
variable {α β : Type} {R R' : α → β → Prop}
theorem mono (h : ∀ a b, R a b → R' a b) : ∀ {l m}, All2 R l m → All2 R' l m
  | _, _, .nil => .nil
  | _, _, .cons x y => .cons (h _ _ x) (mono h y)
theorem length : ∀ {l m}, All2 R l m → l.length = m.length
  | _, _, .nil => rfl
  | _, _, .cons _ y => by simp [length y]
theorem get : ∀ {l : List α} {m : List β} {i : Nat} {a : α}, All2 R l m → l[i]? = some a → ∃ b, m[i]? = some b ∧ R a b
  | _, _, 0, _, .cons x _, h => ⟨_, rfl, by simp at h; subst h; exact x⟩
  | _, _, i + 1, _, .cons _ y, h => by simp at h ⊢; exact get y h
  | _, _, i, _, .nil, h => by simp at h
theorem get' : ∀ {l : List α} {m : List β} {i : Nat} {b : β}, All2 R l m → m[i]? = some b → ∃ a, l[i]? = some a ∧ R a b
  | _, _, 0, _, .cons x _, h => ⟨_, rfl, by simp at h; subst h; exact x⟩
  | _, _, i + 1, _, .cons _ y, h => by simp at h ⊢; exact get' y h
  | _, _, i, _, .nil, h => by simp at h
theorem app : ∀ {l m l' m'}, All2 R l m → All2 R l' m' → All2 R (l ++ l') (m ++ m')
  | _, _, _, _, .nil, k => k
  | _, _, _, _, .cons x y, k => .cons x (app y k)
theorem take : ∀ {l m} n, All2 R l m → All2 R (l.take n) (m.take n)
  | _, _, 0, _ => by simp; exact .nil
  | _, _, n + 1, .nil => by simp; exact .nil
  | _, _, n + 1, .cons x y => by simp; exact .cons x (take n y)
theorem drop : ∀ {l m} n, All2 R l m → All2 R (l.drop n) (m.drop n)
  | _, _, 0, k => by simpa using k
  | _, _, n + 1, .nil => by simp; exact .nil
  | _, _, n + 1, .cons x y => by simp; exact drop n y
theorem of_get : ∀ {l : List α} {m : List β}, l.length = m.length → (∀ (i : Nat) a b, l[i]? = some a → m[i]? = some b → R a b) → All2 R l m
  | [], [], _, _ => .nil
  | [], _ :: _, h, _ => by simp at h
  | _ :: _, [], h, _ => by simp at h
  | a :: l, b :: m, h, k => .cons (k 0 a b rfl rfl) (of_get (by simpa using h) fun i x y hx hy => k (i + 1) x y (by simpa using hx) (by simpa using hy))
end All2
theorem nth_eq {α : Type} (d : α) : ∀ (l : List α) (i : Nat), nth d l i = l.getD i d
  | [], i => by simp [nth]
  | x :: r, 0 => by simp [nth]
  | x :: r, i + 1 => by simp [nth, nth_eq d r i]
theorem nth_some {α : Type} {d : α} {l : List α} {i : Nat} {x : α} (h : l[i]? = some x) : nth d l i = x := by rw [nth_eq]; simp [List.getD, h]
theorem put1_eq {α : Type} : ∀ (l : List α) (i : Nat) (x : α), put1 l i x = l.set i x
  | [], _, _ => by simp [put1]
  | _ :: _, 0, _ => by simp [put1]
  | y :: r, i + 1, x => by simp [put1, put1_eq r i x]
theorem len_eq {α : Type} : ∀ l : List α, len l = l.length
  | [] => rfl
  | _ :: r => by simp [len, len_eq r]
theorem cat_eq {α : Type} : ∀ l m : List α, cat l m = l ++ m
  | [], _ => rfl
  | x :: r, m => by simp [cat, cat_eq r m]
theorem tk_eq {α : Type} : ∀ (n : Nat) (l : List α), tk n l = l.take n
  | 0, _ => by simp [tk]
  | n + 1, [] => by simp [tk]
  | n + 1, x :: r => by simp [tk, tk_eq n r]
theorem dr_eq {α : Type} : ∀ (n : Nat) (l : List α), dr n l = l.drop n
  | 0, _ => by simp [dr]
  | n + 1, [] => by simp [dr]
  | n + 1, x :: r => by simp [dr, dr_eq n r]
theorem rep_eq {α : Type} : ∀ (n : Nat) (x : α), rep n x = List.replicate n x
  | 0, _ => rfl
  | n + 1, x => by simp [rep, rep_eq n x, List.replicate_succ]
theorem splice_some {α : Type} {cs new l : List α} {off : Nat} (h : splice cs off new = some l) : off + new.length ≤ cs.length ∧ l = cs.take off ++ (new ++ cs.drop (off + new.length)) := by
  unfold splice at h
  simp only [len_eq, cat_eq, tk_eq, dr_eq] at h
  split at h
  · rename_i hb
    exact ⟨Nat.le_of_ble_eq_true hb, (Option.some.inj h).symm⟩
  · cases h
theorem cut_some {α : Type} {cs l : List α} {off n : Nat} (h : cut cs off n = some l) : off + n ≤ cs.length ∧ l = (cs.drop off).take n := by
  unfold cut at h
  simp only [len_eq, tk_eq, dr_eq] at h
  split at h
  · rename_i hb
    exact ⟨Nat.le_of_ble_eq_true hb, (Option.some.inj h).symm⟩
  · cases h
theorem conv_some {T : Tys} {a b : Ty} {x : den T a} {y : den T b} (h : conv a b x = some y) : ∃ e : a = b, e ▸ x = y := by
  unfold conv at h
  split at h
  · rename_i e
    exact ⟨e, Option.some.inj h⟩
  · cases h
/-- (No other types.) -/
structure XRep (E : Env) where
/-- Cells lie there. -/
def At (w : World) (b o : Nat) (cs : List Value) : Prop := ∀ u v, cs[u]? = some v → w.cell? ⟨b, o + u, none⟩ = some v
theorem At.mono {w w' : World} {b o : Nat} {cs : List Value} (h : At w b o cs) (hb : w'.heap[b]? = w.heap[b]?) : At w' b o cs := fun u v hu => by
  rw [World.cell?_of_block (w := w) (a := ⟨b, o + u, none⟩) hb]; exact h u v hu
def XR (E : Env) : XRep E := {}
section
variable {E : Env} (X : XRep E)
def RVt (w : World) (ok : Nat → Prop) (Sp : (n : Nat) → E.S n → List Value → Prop) : (t : Ty) → den E.toTys t → List Value → Prop
  | .int k, x, cs => cs = [.int k x]
  | .bool, x, cs => cs = [.bool x]
  | .slice t, xs, cs => ∃ a cap, cs = [.slice a xs.length cap] ∧ xs.length ≤ cap ∧
      (xs ≠ [] → ∃ b o, a = some ⟨b, o, none⟩ ∧ ok b ∧ ∀ j x, xs[j]? = some x → ∃ es, es.length = sz E t ∧ RVt w ok Sp t x es ∧ At w b (o + j * sz E t) es)
  | .ptr t, x, cs => match x with
    | none => cs = [.pointer none]
    | some y => ∃ b o es, cs = [.pointer (some ⟨b, o, none⟩)] ∧ ok b ∧ es.length = sz E t ∧ RVt w ok Sp t y es ∧ At w b o es
  | .st n, x, cs => Sp n x cs
  | .arr n t, xs, cs => xs.length = n ∧ cs.length = n * sz E t ∧ ∀ j x, xs[j]? = some x → RVt w ok Sp t x ((cs.drop (j * sz E t)).take (sz E t))
  | .ext n t, x, cs => ∃ b o es, cs = [.func (.func n) #[] #[.pointer (some ⟨b, o, none⟩)]] ∧ ok b ∧ es.length = sz E t ∧ RVt w ok Sp t x es ∧ At w b o es
  | .fnv n, _, cs => cs = [.func (.func n) #[] #[]]
  | .em, _, cs => ∃ a, cs = [.slice a 0 0]
  | .any, x, cs => cs = [anyV x]
/-- Fields, a cell each. -/
def RVL {T : Tys} (Q : (t : Ty) → den T t → List Value → Prop) : (ts : List Ty) → HL T ts → List Value → Prop
  | [], _, cs => cs = []
  | t :: ts, x, cs => ∃ v r, cs = v :: r ∧ v.oneCell' = true ∧ Q t x.1 [v] ∧ RVL Q ts x.2 r
def Sp (w : World) (ok : Nat → Prop) : Nat → (n : Nat) → E.S n → List Value → Prop
  | 0, _, _, _ => False
  | d + 1, n, x, cs => RVL (RVt w ok (Sp w ok d)) (E.fs n) (E.to n x) cs
/-- A value of a type, as cells. -/
def Rep (X : XRep E) (w : World) (ok : Nat → Prop) (t : Ty) (x : den E.toTys t) (cs : List Value) : Prop := ∃ d, RVt w ok (Sp w ok d) t x cs
variable {X}
theorem RVt.mono {w w' : World} {ok ok' : Nat → Prop} {Q Q' : (n : Nat) → E.S n → List Value → Prop} (hk : ∀ b, ok b → ok' b ∧ w'.heap[b]? = w.heap[b]?) (hQ : ∀ n x cs, Q n x cs → Q' n x cs) :
    ∀ (t : Ty) (x : den E.toTys t) (cs : List Value), RVt w ok Q t x cs → RVt w' ok' Q' t x cs
  | .int k, x, cs, h => h
  | .bool, x, cs, h => h
  | .slice t, xs, cs, h => by
    obtain ⟨a, cap, e, hl, h⟩ := h
    refine ⟨a, cap, e, hl, fun hne => ?_⟩
    obtain ⟨b, o, ha, hb, h⟩ := h hne
    refine ⟨b, o, ha, (hk b hb).1, fun j x hx => ?_⟩
    obtain ⟨es, h1, h2, h3⟩ := h j x hx
    exact ⟨es, h1, RVt.mono hk hQ t x es h2, h3.mono (hk b hb).2⟩
  | .ptr t, none, cs, h => h
  | .ptr t, some y, cs, h => by
    obtain ⟨b, o, es, e, hb, h1, h2, h3⟩ := h
    exact ⟨b, o, es, e, (hk b hb).1, h1, RVt.mono hk hQ t y es h2, h3.mono (hk b hb).2⟩
  | .st n, x, cs, h => hQ n x cs h
  | .arr n t, xs, cs, h => by
    obtain ⟨h1, h2, h3⟩ := h
    exact ⟨h1, h2, fun j x hx => RVt.mono hk hQ t x _ (h3 j x hx)⟩
  | .ext n t, x, cs, h => by
    obtain ⟨b, o, es, e, hb, h1, h2, h3⟩ := h
    exact ⟨b, o, es, e, (hk b hb).1, h1, RVt.mono hk hQ t x es h2, h3.mono (hk b hb).2⟩
  | .fnv n, x, cs, h => h
  | .em, x, cs, h => h
  | .any, x, cs, h => h
theorem RVL.mono {T : Tys} {Q Q' : (t : Ty) → den T t → List Value → Prop} (h : ∀ t x cs, Q t x cs → Q' t x cs) : ∀ (ts : List Ty) (x : HL T ts) (cs : List Value), RVL Q ts x cs → RVL Q' ts x cs
  | [], _, _, k => k
  | t :: ts, x, cs, k => by
    obtain ⟨v, r, e, h1, h2, h3⟩ := k
    exact ⟨v, r, e, h1, h _ _ _ h2, RVL.mono h ts _ _ h3⟩
theorem Sp.mono {w w' : World} {ok ok' : Nat → Prop} (hk : ∀ b, ok b → ok' b ∧ w'.heap[b]? = w.heap[b]?) : ∀ d n (x : E.S n) cs, Sp w ok d n x cs → Sp w' ok' d n x cs
  | 0, _, _, _, h => h.elim
  | d + 1, n, x, cs, h => RVL.mono (fun t x cs k => RVt.mono hk (Sp.mono hk d) t x cs k) _ _ _ h
theorem Sp.up {w : World} {ok : Nat → Prop} : ∀ d n (x : E.S n) cs, Sp w ok d n x cs → Sp w ok (d + 1) n x cs
  | 0, _, _, _, h => h.elim
  | d + 1, n, x, cs, h => RVL.mono (fun t x cs k => RVt.mono (fun b hb => ⟨hb, rfl⟩) (Sp.up d) t x cs k) _ _ _ h
theorem Sp.le {w : World} {ok : Nat → Prop} {d d' : Nat} (hd : d ≤ d') : ∀ n (x : E.S n) cs, Sp w ok d n x cs → Sp w ok d' n x cs := by
  induction hd with
  | refl => exact fun n x cs h => h
  | step _ ih => exact fun n x cs h => Sp.up _ _ _ _ (ih n x cs h)
theorem RVt.le {w : World} {ok : Nat → Prop} {d d' : Nat} (hd : d ≤ d') {t : Ty} {x : den E.toTys t} {cs : List Value} (h : RVt w ok (Sp w ok d) t x cs) : RVt w ok (Sp w ok d') t x cs :=
  RVt.mono (fun b hb => ⟨hb, rfl⟩) (Sp.le hd) t x cs h
theorem Rep.mono {w w' : World} {ok ok' : Nat → Prop} (hk : ∀ b, ok b → ok' b ∧ w'.heap[b]? = w.heap[b]?) {t : Ty} {x : den E.toTys t} {cs : List Value} (h : Rep X w ok t x cs) : Rep X w' ok' t x cs := by
  obtain ⟨d, h⟩ := h
  exact ⟨d, RVt.mono hk (Sp.mono hk d) t x cs h⟩
theorem anyV_one : ∀ x, (anyV x).oneCell' = true
  | none => rfl
  | some (_, _) => rfl
theorem RVt.cells {w : World} {ok : Nat → Prop} {Q : (n : Nat) → E.S n → List Value → Prop} {t : Ty} {x : den E.toTys t} {cs : List Value} (hs : ∀ n, t ≠ .st n) (ha : ∀ n u, t ≠ .arr n u) (h : RVt w ok Q t x cs) :
    ∃ v, cs = [v] ∧ v.oneCell' = true := by
  cases t with
  | int k => exact ⟨_, h, rfl⟩
  | bool => exact ⟨_, h, rfl⟩
  | slice t => obtain ⟨a, cap, e, _⟩ := h; exact ⟨_, e, rfl⟩
  | ptr t =>
    cases x with
    | none => exact ⟨_, h, rfl⟩
    | some y => obtain ⟨b, o, es, e, _⟩ := h; exact ⟨_, e, rfl⟩
  | st n => exact absurd rfl (hs n)
  | arr n u => exact absurd rfl (ha n u)
  | ext n t => obtain ⟨b, o, es, e, _⟩ := h; exact ⟨_, e, rfl⟩
  | fnv n => exact ⟨_, h, rfl⟩
  | em => obtain ⟨a, h⟩ := h; exact ⟨_, h, rfl⟩
  | any => exact ⟨_, h, anyV_one x⟩
theorem RVL.length {T : Tys} {Q : (t : Ty) → den T t → List Value → Prop} : ∀ (ts : List Ty) (x : HL T ts) (cs : List Value), RVL Q ts x cs → cs.length = ts.length
  | [], _, cs, h => by subst h; rfl
  | t :: ts, x, cs, h => by
    obtain ⟨v, r, e, _, _, h3⟩ := h
    subst e
    simp [RVL.length ts _ _ h3]
theorem Sp.length {w : World} {ok : Nat → Prop} : ∀ d n (x : E.S n) cs, Sp w ok d n x cs → cs.length = (E.fs n).length
  | 0, _, _, _, h => h.elim
  | d + 1, n, x, cs, h => RVL.length _ _ _ h
theorem Rep.length {w : World} {ok : Nat → Prop} {t : Ty} {x : den E.toTys t} {cs : List Value} (h : Rep X w ok t x cs) : cs.length = sz E t := by
  obtain ⟨d, h⟩ := h
  cases t with
  | st n => simp only [sz, len_eq]; exact Sp.length d n x cs h
  | arr n u => exact h.2.1
  | _ =>
    obtain ⟨v, e, _⟩ := RVt.cells (by intro n hh; cases hh) (by intro n u hh; cases hh) h
    rw [e]; rfl
/-- One depth for all. -/
theorem uniform {P : Nat → Nat → Prop} (up : ∀ d d' j, d ≤ d' → P d j → P d' j) : ∀ n, (∀ j, j < n → ∃ d, P d j) → ∃ d, ∀ j, j < n → P d j
  | 0, _ => ⟨0, fun j h => absurd h (Nat.not_lt_zero j)⟩
  | n + 1, h => by
    obtain ⟨d, hd⟩ := uniform up n fun j hj => h j (by omega)
    obtain ⟨d', hd'⟩ := h n (by omega)
    refine ⟨max d d', fun j hj => ?_⟩
    by_cases e : j = n
    · subst e; exact up _ _ _ (Nat.le_max_right _ _) hd'
    · exact up _ _ _ (Nat.le_max_left _ _) (hd j (by omega))
theorem RVL.all {w : World} {ok : Nat → Prop} : ∀ (ts : List Ty) (x : HL E.toTys ts) (cs : List Value), RVL (Rep X w ok) ts x cs → ∃ d, RVL (RVt w ok (Sp w ok d)) ts x cs
  | [], _, _, h => ⟨0, h⟩
  | t :: ts, x, cs, h => by
    obtain ⟨v, r, e, h1, ⟨d, h2⟩, h3⟩ := h
    obtain ⟨d', h3⟩ := RVL.all ts _ _ h3
    exact ⟨max d d', v, r, e, h1, RVt.le (Nat.le_max_left _ _) h2, RVL.mono (fun t x cs k => RVt.le (Nat.le_max_right _ _) k) _ _ _ h3⟩
/-- A struct is its fields. -/
theorem Rep.st {w : World} {ok : Nat → Prop} {n : Nat} {x : E.S n} {cs : List Value} : Rep X w ok (.st n) x cs ↔ RVL (Rep X w ok) (E.fs n) (E.to n x) cs := by
  constructor
  · rintro ⟨d, h⟩
    cases d with
    | zero => exact h.elim
    | succ d => exact RVL.mono (fun t x cs k => ⟨d, k⟩) _ _ _ h
  · intro h
    obtain ⟨d, h⟩ := RVL.all _ _ _ h
    exact ⟨d + 1, h⟩
theorem Rep.slice {w : World} {ok : Nat → Prop} {t : Ty} {xs : List (den E.toTys t)} {cs : List Value} : Rep X w ok (.slice t) xs cs ↔ ∃ a cap, cs = [.slice a xs.length cap] ∧ xs.length ≤ cap ∧
      (xs ≠ [] → ∃ b o, a = some ⟨b, o, none⟩ ∧ ok b ∧ ∀ j x, xs[j]? = some x → ∃ es, Rep X w ok t x es ∧ At w b (o + j * sz E t) es) := by
  constructor
  · rintro ⟨d, a, cap, e, hl, h⟩
    refine ⟨a, cap, e, hl, fun hne => ?_⟩
    obtain ⟨b, o, ha, hb, h⟩ := h hne
    refine ⟨b, o, ha, hb, fun j x hx => ?_⟩
    obtain ⟨es, h1, h2, h3⟩ := h j x hx
    exact ⟨es, ⟨d, h2⟩, h3⟩
  · rintro ⟨a, cap, e, hl, h⟩
    by_cases hne : xs = []
    · exact ⟨0, a, cap, e, hl, fun k => absurd hne k⟩
    obtain ⟨b, o, ha, hb, h⟩ := h hne
    obtain ⟨d, hd⟩ := uniform (P := fun d j => ∀ x, xs[j]? = some x → ∃ es, es.length = sz E t ∧ RVt w ok (Sp w ok d) t x es ∧ At w b (o + j * sz E t) es)
      (fun d d' j hd k x hx => by
        obtain ⟨es, h1, h2, h3⟩ := k x hx
        exact ⟨es, h1, RVt.le hd h2, h3⟩) xs.length (fun j hj => by
        obtain ⟨es, ⟨d, h2⟩, h3⟩ := h j xs[j] (List.getElem?_eq_getElem hj)
        refine ⟨d, fun x hx => ?_⟩
        rw [List.getElem?_eq_getElem hj] at hx
        cases hx
        exact ⟨es, Rep.length (X := X) ⟨d, h2⟩, h2, h3⟩)
    exact ⟨d, a, cap, e, hl, fun _ => ⟨b, o, ha, hb, fun j x hx => hd j (List.getElem?_eq_some_iff.1 hx).1 x hx⟩⟩
theorem Rep.ptr {w : World} {ok : Nat → Prop} {t : Ty} {y : den E.toTys t} {cs : List Value} : Rep X w ok (.ptr t) (some y) cs ↔ ∃ b o es, cs = [.pointer (some ⟨b, o, none⟩)] ∧ ok b ∧ Rep X w ok t y es ∧ At w b o es := by
  constructor
  · rintro ⟨d, b, o, es, e, hb, h1, h2, h3⟩
    exact ⟨b, o, es, e, hb, ⟨d, h2⟩, h3⟩
  · rintro ⟨b, o, es, e, hb, ⟨d, h2⟩, h3⟩
    exact ⟨d, b, o, es, e, hb, Rep.length (X := X) ⟨d, h2⟩, h2, h3⟩
theorem Rep.arr {w : World} {ok : Nat → Prop} {n : Nat} {t : Ty} {xs : List (den E.toTys t)} {cs : List Value} : Rep X w ok (.arr n t) xs cs ↔ xs.length = n ∧ cs.length = n * sz E t ∧ ∀ j x, xs[j]? = some x → Rep X w ok t x ((cs.drop (j * sz E t)).take (sz E t)) := by
  constructor
  · rintro ⟨d, h1, h2, h3⟩
    exact ⟨h1, h2, fun j x hx => ⟨d, h3 j x hx⟩⟩
  · rintro ⟨h1, h2, h3⟩
    obtain ⟨d, hd⟩ := uniform (P := fun d j => ∀ x, xs[j]? = some x → RVt w ok (Sp w ok d) t x ((cs.drop (j * sz E t)).take (sz E t)))
      (fun d d' j hd k x hx => RVt.le hd (k x hx)) xs.length (fun j hj => by
        obtain ⟨d, h2⟩ := h3 j xs[j] (List.getElem?_eq_getElem hj)
        refine ⟨d, fun x hx => ?_⟩
        rw [List.getElem?_eq_getElem hj] at hx
        cases hx
        exact h2)
    exact ⟨d, h1, h2, fun j x hx => hd j (List.getElem?_eq_some_iff.1 hx).1 x hx⟩
theorem Rep.int {w : World} {ok : Nat → Prop} {k : IntKind} {x : Int} {cs : List Value} : Rep X w ok (.int k) x cs ↔ cs = [.int k x] := ⟨fun ⟨_, h⟩ => h, fun h => ⟨0, h⟩⟩
theorem Rep.bool {w : World} {ok : Nat → Prop} {x : Bool} {cs : List Value} : Rep X w ok .bool x cs ↔ cs = [.bool x] := ⟨fun ⟨_, h⟩ => h, fun h => ⟨0, h⟩⟩
theorem Rep.ext {w : World} {ok : Nat → Prop} {n : Nat} {t : Ty} {y : den E.toTys t} {cs : List Value} : Rep X w ok (.ext n t) y cs ↔ ∃ b o es, cs = [.func (.func n) #[] #[.pointer (some ⟨b, o, none⟩)]] ∧ ok b ∧ Rep X w ok t y es ∧ At w b o es := by
  constructor
  · rintro ⟨d, b, o, es, e, hb, h1, h2, h3⟩
    exact ⟨b, o, es, e, hb, ⟨d, h2⟩, h3⟩
  · rintro ⟨b, o, es, e, hb, ⟨d, h2⟩, h3⟩
    exact ⟨d, b, o, es, e, hb, Rep.length (X := X) ⟨d, h2⟩, h2, h3⟩
theorem Rep.fnv {w : World} {ok : Nat → Prop} {n : Nat} {x : Unit} {cs : List Value} : Rep X w ok (.fnv n) x cs ↔ cs = [.func (.func n) #[] #[]] := ⟨fun ⟨_, h⟩ => h, fun h => ⟨0, h⟩⟩
theorem Rep.em {w : World} {ok : Nat → Prop} {x : Unit} {cs : List Value} : Rep X w ok .em x cs ↔ ∃ a, cs = [.slice a 0 0] := ⟨fun ⟨_, h⟩ => h, fun h => ⟨0, h⟩⟩
theorem Rep.any {w : World} {ok : Nat → Prop} {x : Option (Nat × Value)} {cs : List Value} : Rep X w ok .any x cs ↔ cs = [anyV x] := ⟨fun ⟨_, h⟩ => h, fun h => ⟨0, h⟩⟩
theorem Rep.nil {w : World} {ok : Nat → Prop} {t : Ty} {cs : List Value} : Rep X w ok (.ptr t) (none : Option (den E.toTys t)) cs ↔ cs = [.pointer none] := ⟨fun ⟨_, h⟩ => h, fun h => ⟨0, h⟩⟩
end
end Go.Proofs.Ytlamlgfngpmhgaa.V.B
namespace Go.Proofs.Ytlamlgfngpmhgaa.V.B
set_option linter.unusedVariables false
section
variable {E : Env} (X : XRep E)
/-- Elements one behind the other. -/
def Lay (w : World) (ok : Nat → Prop) (t : Ty) : List (den E.toTys t) → List Value → Prop
  | [], L => L = []
  | x :: xs, L => ∃ es r, L = es ++ r ∧ Rep X w ok t x es ∧ Lay w ok t xs r
variable {X} {w w' : World} {ok ok' : Nat → Prop} {t : Ty}
theorem Lay.length : ∀ {xs : List (den E.toTys t)} {L : List Value}, Lay X w ok t xs L → L.length = xs.length * sz E t
  | [], L, h => by subst h; simp
  | x :: xs, L, h => by
    obtain ⟨es, r, rfl, h1, h2⟩ := h
    rw [List.length_append, h1.length, Lay.length h2, List.length_cons, Nat.add_mul, Nat.one_mul, Nat.add_comm]
theorem Lay.mono (hk : ∀ b, ok b → ok' b ∧ w'.heap[b]? = w.heap[b]?) : ∀ {xs : List (den E.toTys t)} {L : List Value}, Lay X w ok t xs L → Lay X w' ok' t xs L
  | [], L, h => h
  | x :: xs, L, h => by
    obtain ⟨es, r, e, h1, h2⟩ := h
    exact ⟨es, r, e, h1.mono hk, Lay.mono hk h2⟩
theorem Lay.app : ∀ {xs ys : List (den E.toTys t)} {L M : List Value}, Lay X w ok t xs L → Lay X w ok t ys M → Lay X w ok t (xs ++ ys) (L ++ M)
  | [], ys, L, M, h, k => by subst h; exact k
  | x :: xs, ys, L, M, h, k => by
    obtain ⟨es, r, rfl, h1, h2⟩ := h
    exact ⟨es, r ++ M, by rw [List.append_assoc], h1, Lay.app h2 k⟩
theorem Lay.get : ∀ {xs : List (den E.toTys t)} {L : List Value} {j : Nat} {x : den E.toTys t}, Lay X w ok t xs L → xs[j]? = some x → Rep X w ok t x ((L.drop (j * sz E t)).take (sz E t))
  | [], _, _, _, _, h => by simp at h
  | x :: xs, L, 0, y, h, e => by
    obtain ⟨es, r, rfl, h1, h2⟩ := h
    simp at e
    subst e
    rw [Nat.zero_mul, List.drop_zero, ← h1.length, List.take_left]
    exact h1
  | x :: xs, L, j + 1, y, h, e => by
    obtain ⟨es, r, rfl, h1, h2⟩ := h
    have e' : xs[j]? = some y := by simpa using e
    have := Lay.get h2 e'
    rw [Nat.add_mul, Nat.one_mul, Nat.add_comm (j * _), ← List.drop_drop, ← h1.length, List.drop_left, h1.length]
    exact this
theorem Lay.drop : ∀ {xs : List (den E.toTys t)} {L : List Value} (n : Nat), Lay X w ok t xs L → Lay X w ok t (xs.drop n) (L.drop (n * sz E t))
  | xs, L, 0, h => by simpa using h
  | [], L, n + 1, h => by subst h; simp [Lay]
  | x :: xs, L, n + 1, h => by
    obtain ⟨es, r, rfl, h1, h2⟩ := h
    rw [Nat.add_mul, Nat.one_mul, Nat.add_comm (n * _), ← h1.length, List.drop_length_add_append, List.drop_succ_cons, h1.length]
    exact Lay.drop n h2
theorem Lay.take : ∀ {xs : List (den E.toTys t)} {L : List Value} (n : Nat), Lay X w ok t xs L → Lay X w ok t (xs.take n) (L.take (n * sz E t))
  | xs, L, 0, h => by simp [Lay]
  | [], L, n + 1, h => by subst h; simp [Lay]
  | x :: xs, L, n + 1, h => by
    obtain ⟨es, r, rfl, h1, h2⟩ := h
    refine ⟨es, r.take (n * sz E t), ?_, h1, Lay.take n h2⟩
    rw [Nat.add_mul, Nat.one_mul, Nat.add_comm (n * _), ← h1.length, List.take_length_add_append]
theorem Lay.set {xs : List (den E.toTys t)} {L es : List Value} {j : Nat} {x : den E.toTys t} (h : Lay X w ok t xs L) (hj : j < xs.length) (hx : Rep X w ok t x es) :
    Lay X w ok t (xs.set j x) (L.take (j * sz E t) ++ (es ++ L.drop (j * sz E t + sz E t))) := by
  rw [List.set_eq_take_append_cons_drop, if_pos hj]
  refine (h.take j).app ⟨es, _, rfl, hx, ?_⟩
  have := h.drop (j + 1)
  rwa [Nat.add_mul, Nat.one_mul] at this
theorem Lay.of_get : ∀ {xs : List (den E.toTys t)} {L : List Value}, L.length = xs.length * sz E t → (∀ j x, xs[j]? = some x → Rep X w ok t x ((L.drop (j * sz E t)).take (sz E t))) → Lay X w ok t xs L
  | [], L, hl, _ => List.eq_nil_of_length_eq_zero (by simpa using hl)
  | x :: xs, L, hl, h => by
    refine ⟨L.take (sz E t), L.drop (sz E t), (List.take_append_drop _ _).symm, by simpa using h 0 x rfl, Lay.of_get ?_ fun j y hy => ?_⟩
    · rw [List.length_drop, hl, List.length_cons, Nat.add_mul, Nat.one_mul]; omega
    · have := h (j + 1) y (by simpa using hy)
      rwa [Nat.add_mul, Nat.one_mul, Nat.add_comm (j * _), ← List.drop_drop] at this
theorem Rep.arrL {n : Nat} {xs : List (den E.toTys t)} {cs : List Value} : Rep X w ok (.arr n t) xs cs ↔ xs.length = n ∧ Lay X w ok t xs cs := by
  rw [Rep.arr]
  constructor
  · rintro ⟨rfl, h2, h3⟩
    exact ⟨rfl, Lay.of_get h2 h3⟩
  · rintro ⟨rfl, h⟩
    exact ⟨rfl, h.length, fun j x hx => h.get hx⟩
theorem Lay.rep {x : den E.toTys t} {es : List Value} (h : Rep X w ok t x es) : ∀ n : Nat, Lay X w ok t (List.replicate n x) (List.replicate n es).flatten
  | 0 => by simp [Lay]
  | n + 1 => by
    rw [List.replicate_succ, List.replicate_succ, List.flatten_cons]
    exact ⟨es, _, rfl, h, Lay.rep h n⟩
/-- A slice that is read, as one row of cells. -/
theorem Rep.sliceL {xs : List (den E.toTys t)} {v : Value} (h : Rep X w ok (.slice t) xs [v]) : ∃ a cap L, v = .slice a xs.length cap ∧ xs.length ≤ cap ∧ Lay X w ok t xs L ∧
    (xs ≠ [] → ∃ b o, a = some ⟨b, o, none⟩ ∧ ok b ∧ At w b o L) := by
  obtain ⟨a, cap, e, hl, h⟩ := Rep.slice.1 h
  have ev : v = .slice a xs.length cap := by simpa using e
  by_cases hne : xs = []
  · subst hne
    exact ⟨a, cap, [], ev, hl, rfl, fun k => absurd rfl k⟩
  obtain ⟨b, o, ha, hb, h⟩ := h hne
  have key : ∀ (ys : List (den E.toTys t)) (p : Nat), (∀ j x, ys[j]? = some x → ∃ es, Rep X w ok t x es ∧ At w b (p + j * sz E t) es) → ∃ L, Lay X w ok t ys L ∧ At w b p L := by
    intro ys
    induction ys with
    | nil => exact fun p _ => ⟨[], rfl, fun u v hu => by simp at hu⟩
    | cons y ys ih =>
      intro p hp
      obtain ⟨es, h1, h2⟩ := hp 0 y rfl
      rw [Nat.zero_mul, Nat.add_zero] at h2
      obtain ⟨L, h3, h4⟩ := ih (p + sz E t) fun j x hx => by
        obtain ⟨es, g1, g2⟩ := hp (j + 1) x (by simpa using hx)
        refine ⟨es, g1, ?_⟩
        rwa [Nat.add_mul, Nat.one_mul, Nat.add_comm (j * _), ← Nat.add_assoc] at g2
      refine ⟨es ++ L, ⟨es, L, rfl, h1, h3⟩, fun u v hu => ?_⟩
      by_cases hlt : u < es.length
      · rw [List.getElem?_append_left hlt] at hu
        exact h2 u v hu
      · rw [List.getElem?_append_right (by omega)] at hu
        have := h4 _ v hu
        rw [h1.length] at this hlt
        rwa [show p + sz E t + (u - sz E t) = p + u by omega] at this
  obtain ⟨L, h3, h4⟩ := key xs o h
  exact ⟨a, cap, L, ev, hl, h3, fun _ => ⟨b, o, ha, hb, h4⟩⟩
theorem At.sub {b o : Nat} {L : List Value} (h : At w b o L) (p n : Nat) : At w b (o + p) ((L.drop p).take n) := by
  intro u v hu
  rw [List.getElem?_take] at hu
  split at hu
  · rw [List.getElem?_drop] at hu
    have := h _ v hu
    rwa [← Nat.add_assoc] at this
  · cases hu
theorem Rep.sliceM {xs : List (den E.toTys t)} {a : Option Addr} {cap : Nat} {L : List Value} (hl : xs.length ≤ cap) (h : Lay X w ok t xs L) (ha : xs ≠ [] → ∃ b o, a = some ⟨b, o, none⟩ ∧ ok b ∧ At w b o L) :
    Rep X w ok (.slice t) xs [.slice a xs.length cap] := by
  refine Rep.slice.2 ⟨a, cap, rfl, hl, fun hne => ?_⟩
  obtain ⟨b, o, e, hb, hA⟩ := ha hne
  exact ⟨b, o, e, hb, fun j x hx => ⟨_, h.get hx, hA.sub _ _⟩⟩
end
/-- What a block of the small machine is: the value that names it, its block in memory (it begins there), how many elements. -/
structure Hd where
  hdr : Value
  blk : Option Nat
  n : Nat
section
variable {E : Env} (X : XRep E) (φ : Nat → Option Hd) (w : World) (ok : Nat → Prop)
def RS : SV E.toTys → Value → Prop
  | .val t x, v => v.oneCell' = true ∧ Rep X w ok t x [v]
  | .tst p d n, v => v = .bool (match n with | false => @decide p d | true => !@decide p d)
  | .emp, v => ∃ a, v = .slice a 0 0
  | .ref id, v => ∃ h a n c, φ id = some h ∧ v = h.hdr ∧ h.hdr = .slice a n c
  | .ptr id off, v => ∃ h b, φ id = some h ∧ h.blk = some b ∧ v = .pointer (some ⟨b, off, none⟩)
  | .elt id t i off, v => ∃ h b, φ id = some h ∧ h.blk = some b ∧ 0 ≤ i ∧ i.toNat < h.n ∧ v = .pointer (some ⟨b, i.toNat * sz E t + off, none⟩)
  | .box t x off, v => ∃ b o es, v = .pointer (some ⟨b, o + off, none⟩) ∧ ok b ∧ Rep X w ok t x es ∧ At w b o es
  | .nilp, v => v = .pointer none
  | .fn f, v => v = .func (.func f) #[] #[]
  | .dead, v => v.oneCell' = true
def RC : CV E.toTys → Value → Prop
  | .s v, x => v ≠ .dead → RS X φ w ok v x
  | .agg cs, x => ∃ vs, x = .agg vs.toArray ∧ All2 (RS X φ w ok) cs vs
def RA : AV E.toTys → Value → Prop
  | .c v, x => RC X φ w ok v x
  | .arr n t xs, x => ∃ cs, x = .agg cs.toArray ∧ Rep X w ok (.arr n t) xs cs
  | .tup l, x => ∃ vs, x = .tuple vs.toArray ∧ All2 (RC X φ w ok) l vs
  | .clo f cs, x => ∃ vs, x = .func (.func f) #[] vs.toArray ∧ All2 (RC X φ w ok) cs vs
/-- The call's own rows. -/
def RM (id : Nat) : Blk E.toTys → Prop
  | .free => φ id = none
  | .gone => True
  | .var cs => ∃ b c e, φ id = some ⟨.pointer (some ⟨b, 0, none⟩), some b, 0⟩ ∧ w.heap[b]? = some (.cells c e (0, 0)) ∧ All2 (RS X φ w ok) cs c.toList
  | .arr t xs => ∃ a cap bl, φ id = some ⟨.slice a xs.length cap, bl, xs.length⟩ ∧ xs.length ≤ cap ∧ ((cap = 0 ∧ bl = none) ∨
      ∃ b c e L, a = some ⟨b, 0, none⟩ ∧ bl = some b ∧ w.heap[b]? = some (.cells c e (0, 0)) ∧ cap * sz E t ≤ c.size ∧ Lay X w ok t xs L ∧ c.toList.take L.length = L)
  | .avar n t xs => ∃ b c e, φ id = some ⟨.pointer (some ⟨b, 0, none⟩), some b, n⟩ ∧ w.heap[b]? = some (.cells c e (0, 0)) ∧ xs.length = n ∧ Lay X w ok t xs c.toList
end
def live {T : Tys} : Blk T → Prop
  | .free => False
  | .gone => False
  | _ => True
/-- A block in memory is one that the call may write. -/
def own {T : Tys} (φ : Nat → Option Hd) (mem : List (Blk T)) (b : Nat) : Prop := ∃ (id : Nat) (blk : Blk T) (h : Hd), mem[id]? = some blk ∧ live blk ∧ φ id = some h ∧ h.blk = some b
def okb {T : Tys} (A : Nat → Prop) (φ : Nat → Option Hd) (mem : List (Blk T)) (w : World) (b : Nat) : Prop := b < w.heap.size ∧ A b ∧ ¬ own φ mem b
/-- Below B the world is as it was, but for some blocks. -/
structure BelI (I : Nat → Prop) (B : Nat) (w w' : World) : Prop where
  os : w'.os = w.os
  tape : w'.tape = w.tape
  output : w'.output = w.output
  size : w.heap.size ≤ w'.heap.size
  block : ∀ k, k < B → ¬ I k → w'.heap[k]? = w.heap[k]?
theorem BelI.refl (I : Nat → Prop) (B : Nat) (w : World) : BelI I B w w := ⟨rfl, rfl, rfl, Nat.le_refl _, fun _ _ _ => rfl⟩
theorem BelI.then {I J : Nat → Prop} {B B' : Nat} {a b c : World} (h : BelI I B a b) (k : BelI J B' b c) (hB : ∀ i, i < B → ¬ I i → i < B' ∧ ¬ J i) : BelI I B a c :=
  ⟨k.os.trans h.os, k.tape.trans h.tape, k.output.trans h.output, Nat.le_trans h.size k.size, fun i hi hI => (k.block i (hB i hi hI).1 (hB i hi hI).2).trans (h.block i hi hI)⟩
theorem BelI.of {I : Nat → Prop} {B : Nat} {a b : World} (h : RowKit.Below B a b) : BelI I B a b := ⟨h.os, h.tape, h.output, h.size, fun i hi _ => h.block i hi⟩
theorem BelI.to {I : Nat → Prop} {B : Nat} {a b : World} (hI : ∀ i, ¬ I i) (h : BelI I B a b) : RowKit.Below B a b := ⟨h.os, h.tape, h.output, h.size, fun i hi => h.block i hi (hI i)⟩
theorem BelI.trans {I : Nat → Prop} {B B' : Nat} {a b c : World} (h : BelI I B a b) (k : RowKit.Below B' b c) (hB : B ≤ B') : BelI I B a c := h.then (BelI.of (I := fun _ => False) k) fun i hi _ => ⟨Nat.lt_of_lt_of_le hi hB, id⟩
/-- The world that a call begins in, and the argument that it writes: its value, and its block. -/
structure W0 where
  w : World
  io : Option (Value × Option Nat)
  more : List (Option Nat)
def W0.I (W : W0) (b : Nat) : Prop := (∃ v, W.io = some (v, some b)) ∨ some b ∈ W.more
structure Sim {E : Env} (X : XRep E) (w0 : W0) (A : Nat → Prop) (φ : Nat → Option Hd) (st : St E.toTys) (a : Act) (w : World) : Prop where
  sz : a.tmps.size = st.tmps.length
  tm : ∀ (i : Nat) v, st.tmps[i]? = some v → ∃ u, a.tmps[i]? = some u ∧ RA X φ w (okb A φ st.mem w) v u
  mm : ∀ (id : Nat) blk, st.mem[id]? = some blk → RM X φ w (okb A φ st.mem w) id blk
  hi : ∀ id, st.mem.length ≤ id → φ id = none
  sep : ∀ (i j : Nat) p q h k b, st.mem[i]? = some p → st.mem[j]? = some q → live p → live q → φ i = some h → φ j = some k → h.blk = some b → k.blk = some b → i = j
  new : ∀ b, own φ st.mem b → w0.w.heap.size ≤ b ∨ w0.I b
  bel : BelI w0.I w0.w.heap.size w0.w w
  df : a.defers = []
  al : ∀ b, w0.w.heap.size ≤ b ∨ w0.I b → A b
  io : ∀ p, w0.io = some p → ∃ h, φ 0 = some h ∧ h.hdr = p.1 ∧ h.blk = p.2
section
variable {E : Env} {X : XRep E} {A : Nat → Prop} {φ φ' : Nat → Option Hd} {w w' : World} {ok ok' : Nat → Prop}
theorem RS.mono (hf : ∀ id h, φ id = some h → φ' id = some h) (hk : ∀ b, ok b → ok' b ∧ w'.heap[b]? = w.heap[b]?) {s : SV E.toTys} {v : Value} (h : RS X φ w ok s v) : RS X φ' w' ok' s v := by
  cases s with
  | val t x => exact ⟨h.1, h.2.mono hk⟩
  | tst p d n => exact h
  | emp => exact h
  | ref id => obtain ⟨k, a, n, c, h1, h2, h3⟩ := h; exact ⟨k, a, n, c, hf _ _ h1, h2, h3⟩
  | ptr id off => obtain ⟨k, b, h1, h2⟩ := h; exact ⟨k, b, hf _ _ h1, h2⟩
  | elt id t i off => obtain ⟨k, b, h1, h2⟩ := h; exact ⟨k, b, hf _ _ h1, h2⟩
  | box t x off => obtain ⟨b, o, es, e, h1, h2, h3⟩ := h; exact ⟨b, o, es, e, (hk b h1).1, h2.mono hk, h3.mono (hk b h1).2⟩
  | nilp => exact h
  | fn f => exact h
  | dead => exact h
theorem RC.mono (hf : ∀ id h, φ id = some h → φ' id = some h) (hk : ∀ b, ok b → ok' b ∧ w'.heap[b]? = w.heap[b]?) {s : CV E.toTys} {v : Value} (h : RC X φ w ok s v) : RC X φ' w' ok' s v := by
  cases s with
  | s x => exact fun hd => RS.mono hf hk (h hd)
  | agg cs => obtain ⟨vs, e, h⟩ := h; exact ⟨vs, e, h.mono fun _ _ => RS.mono hf hk⟩
theorem RA.mono (hf : ∀ id h, φ id = some h → φ' id = some h) (hk : ∀ b, ok b → ok' b ∧ w'.heap[b]? = w.heap[b]?) {s : AV E.toTys} {v : Value} (h : RA X φ w ok s v) : RA X φ' w' ok' s v := by
  cases s with
  | c x => exact RC.mono hf hk h
  | arr n t xs => obtain ⟨cs, e, h⟩ := h; exact ⟨cs, e, h.mono hk⟩
  | tup l => obtain ⟨vs, e, h⟩ := h; exact ⟨vs, e, h.mono fun _ _ => RC.mono hf hk⟩
  | clo f l => obtain ⟨vs, e, h⟩ := h; exact ⟨vs, e, h.mono fun _ _ => RC.mono hf hk⟩
/-- A row that is as it was. -/
theorem RM.mono (hf : ∀ id h, φ id = some h → φ' id = some h) (hk : ∀ b, ok b → ok' b ∧ w'.heap[b]? = w.heap[b]?) {id : Nat} {m : Blk E.toTys} (hid : φ' id = φ id)
    (hb : ∀ h b, live m → φ id = some h → h.blk = some b → w'.heap[b]? = w.heap[b]?) (h : RM X φ w ok id m) : RM X φ' w' ok' id m := by
  cases m with
  | free => exact hid.trans h
  | gone => trivial
  | var cs =>
    obtain ⟨b, c, e, h1, h2, h3⟩ := h
    exact ⟨b, c, e, hid.trans h1, (hb _ _ trivial h1 rfl).trans h2, h3.mono fun _ _ => RS.mono hf hk⟩
  | arr t xs =>
    obtain ⟨a, cap, bl, h1, h2, h3⟩ := h
    refine ⟨a, cap, bl, hid.trans h1, h2, h3.imp (fun h => h) fun ⟨b, c, e, L, g1, g2, g3, g4, g5, g6⟩ => ⟨b, c, e, L, g1, g2, (hb _ _ trivial h1 g2).trans g3, g4, g5.mono hk, g6⟩⟩
  | avar n t xs =>
    obtain ⟨b, c, e, h1, h2, h3, h4⟩ := h
    exact ⟨b, c, e, hid.trans h1, (hb _ _ trivial h1 rfl).trans h2, h3, h4.mono hk⟩
theorem RS.one {s : SV E.toTys} {v : Value} (h : RS X φ w ok s v) : v.oneCell' = true := by
  cases s with
  | val t x => exact h.1
  | tst p d n => cases h; rfl
  | emp => obtain ⟨a, rfl⟩ := h; rfl
  | ref id => obtain ⟨k, a, n, c, h1, rfl, h3⟩ := h; rw [h3]; rfl
  | ptr id off => obtain ⟨k, b, h1, h2, rfl⟩ := h; rfl
  | elt id t i off => obtain ⟨k, b, h1, h2, _, _, rfl⟩ := h; rfl
  | box t x off => obtain ⟨b, o, es, rfl, _⟩ := h; rfl
  | nilp => cases h; rfl
  | fn f => cases h; rfl
  | dead => exact h
theorem cells_one {v : Value} (h : v.oneCell' = true) : v.cells = #[v] := by cases v <;> first | rfl | cases h
theorem RC.cells {c : CV E.toTys} {v : Value} (hd : c ≠ .s .dead) (h : RC X φ w ok c v) : All2 (RS X φ w ok) (cells c) v.cells.toList := by
  cases c with
  | s x =>
    have hx : RS X φ w ok x v := h fun e => hd (by rw [e])
    rw [cells_one hx.one]
    exact .cons hx .nil
  | agg cs =>
    obtain ⟨vs, rfl, h⟩ := h
    simpa [B.cells, Value.cells] using h
theorem RC.mk {x : SV E.toTys} {v : Value} (h : RS X φ w ok x v) : RC X φ w ok (.s x) v := fun _ => h
theorem RC.mkL {c : List (SV E.toTys)} {vs : List Value} (h : All2 (RS X φ w ok) c vs) : RC X φ w ok (.agg c) (.agg vs.toArray) := ⟨vs, rfl, h⟩
/-- The step from one state to another one with the same slots. -/
theorem Sim.go {w0 : W0} {st : St E.toTys} {a : Act} (S : Sim X w0 A φ st a w) {mem' : List (Blk E.toTys)} (hf : ∀ id h, φ id = some h → φ' id = some h)
    (hk : ∀ b, okb A φ st.mem w b → okb A φ' mem' w' b ∧ w'.heap[b]? = w.heap[b]?) (hm : ∀ (id : Nat) blk, mem'[id]? = some blk → RM X φ' w' (okb A φ' mem' w') id blk)
    (hh : ∀ id, mem'.length ≤ id → φ' id = none)
    (hs : ∀ (i j : Nat) p q h k b, mem'[i]? = some p → mem'[j]? = some q → live p → live q → φ' i = some h → φ' j = some k → h.blk = some b → k.blk = some b → i = j)
    (hn : ∀ b, own φ' mem' b → w0.w.heap.size ≤ b ∨ w0.I b) (hb : BelI w0.I w0.w.heap.size w0.w w') : Sim X w0 A φ' ⟨st.tmps, mem'⟩ a w' :=
  ⟨S.sz, fun i v h => by obtain ⟨u, h1, h2⟩ := S.tm i v h; exact ⟨u, h1, h2.mono hf hk⟩, hm, hh, hs, hn, hb, S.df, S.al, fun p hp => by obtain ⟨h, h1, h2⟩ := S.io p hp; exact ⟨h, hf _ _ h1, h2⟩⟩
theorem Sim.put {w0 : W0} {tm : List (AV E.toTys)} {mem : List (Blk E.toTys)} {a : Act} (S : Sim X w0 A φ ⟨tm, mem⟩ a w) (d : Option Nat) {v : AV E.toTys} {u : Value} (h : RA X φ w (okb A φ mem w) v u) :
    Sim X w0 A φ ⟨putT tm d v, mem⟩ (a.put d u) w := by
  cases d with
  | none => exact S
  | some d =>
    refine ⟨?_, fun i x hx => ?_, S.mm, S.hi, S.sep, S.new, S.bel, S.df, S.al, S.io⟩
    · simp [Act.put, putT, put1_eq, S.sz]
    · simp only [putT, put1_eq, List.getElem?_set] at hx
      simp only [Act.put, Array.getElem?_setIfInBounds]
      by_cases e : d = i
      · subst e
        rw [if_pos rfl] at hx
        have hsz := S.sz
        simp only at hsz
        split at hx
        · rename_i hlt
          cases hx
          rw [if_pos rfl, if_pos (by omega)]
          exact ⟨u, rfl, h⟩
        · cases hx
      · rw [if_neg e] at hx
        rw [if_neg e]
        exact S.tm i x hx
theorem Sim.ev {w0 : W0} {st : St E.toTys} {a : Act} (S : Sim X w0 A φ st a w) (x : Operand) : RA X φ w (okb A φ st.mem w) (ev st.tmps x) (a.eval x) := by
  have cst : ∀ v : Value, RC X φ w (okb A φ st.mem w) (.s (cstS v)) v := by
    intro v
    unfold cstS
    split
    · exact fun _ => ⟨rfl, Rep.int.2 rfl⟩
    · exact fun _ => ⟨rfl, Rep.bool.2 rfl⟩
    · exact fun _ => ⟨_, rfl⟩
    · exact fun _ => rfl
    · exact fun _ => ⟨rfl, Rep.any.2 rfl⟩
    · exact fun h => absurd rfl h
  cases x with
  | tmp t =>
    simp only [B.ev, nth_eq, Act.eval, List.getD]
    cases h : st.tmps[t]? with
    | none => exact fun h => absurd rfl h
    | some v =>
      obtain ⟨u, h1, h2⟩ := S.tm t v h
      simp only [Array.getD_eq_getD_getElem?, h1, Option.getD_some]
      exact h2
  | const v =>
    cases v with
    | agg cs =>
      show RA _ _ _ _ (if cs.all (·.oneCell') then .c (.agg (cs.toList.map cstS)) else .c (.s .dead)) (.agg cs)
      split
      · rename_i hall
        have hall : ∀ v ∈ cs.toList, v.oneCell' = true := fun v hv => by
          have := Array.all_eq_true'.1 hall v (by simpa using hv); exact this
        refine ⟨cs.toList, by simp, ?_⟩
        generalize cs.toList = l at hall
        induction l with
        | nil => exact .nil
        | cons v l ih =>
          refine .cons ?_ (ih fun v hv => hall v (by simp [hv]))
          have h1 := cst v
          have h2 := hall v (by simp)
          generalize cstS v = s at h1
          cases s <;> first | exact h2 | exact h1 (by intro h; cases h)
      · exact fun h => absurd rfl h
    | _ => exact cst _
  | global g => exact fun h => absurd rfl h
  | func f => exact fun _ => rfl
end
end Go.Proofs.Ytlamlgfngpmhgaa.V.B
namespace Go.Proofs.Ytlamlgfngpmhgaa.V.B
open Go.RowKit
set_option linter.unusedVariables false
set_option linter.unusedSimpArgs false
/-- Fields of numbers. -/
def EF1 (P : Program) : List Field → Nat → Nat → Prop
  | [], off, e => off = e
  | f :: fs, off, e => f.name ≠ "_" ∧ f.offset = off ∧ (∃ k, P.underlying f.type = some (.int k)) ∧ EF1 P fs (off + 1) e
/-- .. or of structs of numbers. -/
def EF2 (P : Program) : List Field → Nat → Nat → Prop
  | [], off, e => off = e
  | f :: fs, off, e => f.name ≠ "_" ∧ f.offset = off ∧ ((∃ k, P.underlying f.type = some (.int k)) ∧ EF2 P fs (off + 1) e ∨
      ∃ gs i, P.underlying f.type = some (.struct gs) ∧ P.stoodInHeld f.type = false ∧ P.info? f.type = some i ∧ EF1 P gs.toList 0 i.size ∧ EF2 P fs (off + i.size) e)
/-- The program is as the small machine's tables say. -/
structure Tie {E : Env} (X : XRep E) (P : Program) (C : Ctx E) : Prop where
  mixed : P.follows .mixedOrders = true
  str : ∀ t, C.str t = true → P.underlying t = some .string
  info : ∀ t ty, C.ty t = some ty → ∃ i z, P.info? t = some i ∧ i.zero = some z ∧ i.size = sz E ty ∧ 0 < sz E ty ∧ (∀ w ok, Rep X w ok ty (dflt E ty) z.cells.toList) ∧
    (∀ cs, zcells E ty = some cs → ∀ φ w ok, All2 (RS X φ w ok) cs z.cells.toList)
  desc : ∀ t ty, C.ty t = some ty → ∃ d, P.underlying t = some d ∧ (match ty, d with
    | .int k, .int k' => k = k'
    | .bool, .bool => True
    | .slice u, .slice e => C.ty e = some u ∧ ∃ i, P.info? e = some i ∧ i.bytes = C.bytes t ∧ 0 < i.bytes
    | .ptr u, .pointer e => True
    | .any, .interface _ => True
    | .st _, .struct _ => True
    | .arr n u, .array m e => n = m ∧ C.ty e = some u
    | _, _ => False)
  fld : ∀ t f o ft, C.fld t f = some (o, ft) → ∃ fs fd, P.underlying t = some (.struct fs) ∧ fs[f]? = some fd ∧ fd.offset = o ∧ fd.type = ft ∧ ∃ ty, C.ty ft = some ty
  part : ∀ t n, C.ty t = some (.st n) → ∀ fs, P.underlying t = some (.struct fs) → ∀ f ∈ fs, ∃ inf, P.info? f.type = some inf
  eqs : ∀ t, 0 < C.eqs t → ∃ fs, P.underlying t = some (.struct fs) ∧ P.stoodInHeld t = false ∧ P.eqGuardType P.depth t = false ∧ EF2 P fs.toList 0 (C.eqs t)
  aggz : ∀ t n i z, C.ty t = some (.st n) → P.info? t = some i → i.zero = some z → ∃ cs, z = .agg cs
section
variable {E : Env} {X : XRep E} {P : Program} {C : Ctx E} {w0 : W0} {w : World} {A : Nat → Prop} {φ : Nat → Option Hd} {st : St E.toTys} {a : Act} {o : Oper} {R : Type} {r : R} {Q : Exit → Act → World → Prop}
/-- What an operation that answers v, with the rows us, comes to. -/
def Good (X : XRep E) (P : Program) (w0 : W0) (A : Nat → Prop) (st : St E.toTys) (o : Oper) (a : Act) (w : World) (Q : Exit → Act → World → Prop) (v : AV E.toTys) (us : List (Nat × Blk E.toTys)) : Prop :=
  o.wp P a w (fun a' w' => ∃ φ', Sim X w0 A φ' ⟨putT st.tmps o.dst v, app st.mem us⟩ a' w') Q
theorem good_pure (S : Sim X w0 A φ st a w) {v : AV E.toTys} {u : Value} (hr : (execOp a.eval o).run P w = .ok (.value u) w) (h : RA X φ w (okb A φ st.mem w) v u) : Good X P w0 A st o a w Q v [] := by
  unfold Good Oper.wp
  rw [hr]
  exact ⟨φ, S.put o.dst h⟩
/-- What an operation that may answer comes to. -/
abbrev Out (X : XRep E) (P : Program) (w0 : W0) (A : Nat → Prop) (st : St E.toTys) (o : Oper) (a : Act) (w : World) (Q : Exit → Act → World → Prop) (K : KT E R) (r : R) : Prop := ∃ v us, K v us = some r ∧ Good X P w0 A st o a w Q v us
variable {K : KT E R}
theorem RA.s {ok : Nat → Prop} {x : SV E.toTys} {v : Value} (h : RS X φ w ok x v) : RA X φ w ok (.c (.s x)) v := fun _ => h
theorem RA.sv {ok : Nat → Prop} {x : SV E.toTys} {v : Value} (h : RA X φ w ok (.c (.s x)) v) (hd : x ≠ .dead) : RS X φ w ok x v := h hd
theorem RA.int {ok : Nat → Prop} {k : IntKind} {x : Int} {v : Value} (h : RA X φ w ok (.c (.s (.val (.int k) x))) v) : v = .int k x := by
  have := (h (by intro h; cases h)).2
  simpa using Rep.int.1 this
theorem RA.ofInt {ok : Nat → Prop} {k : IntKind} {x : Int} : RA X φ w ok (vi k x) (.int k x) := fun _ => ⟨rfl, Rep.int.2 rfl⟩
theorem RA.ofBool {ok : Nat → Prop} {x : Bool} : RA X φ w ok (.c (.s (.val .bool x))) (.bool x) := fun _ => ⟨rfl, Rep.bool.2 rfl⟩
theorem RS.bool {ok : Nat → Prop} {x : SV E.toTys} {b : Bool} {v : Value} (h : RS X φ w ok x v) (hb : asB x = some b) : v = .bool b := by
  unfold asB at hb
  split at hb
  · cases hb; simpa using Rep.bool.1 h.2
  · cases hb; exact h
  · cases hb; exact h
  · cases hb
theorem br_some {v : SV E.toTys} {A B : Option R} (h : br v A B = some r) : ∃ b, asB v = some b ∧ (if b then A else B) = some r := by
  unfold br at h
  split at h
  · exact ⟨_, rfl, h⟩
  · rename_i p d
    refine ⟨_, rfl, ?_⟩
    by_cases hp : p
    · rw [if_pos hp] at h; simp [hp, h]
    · rw [if_neg hp] at h; simp [hp, h]
  · rename_i p d
    refine ⟨_, rfl, ?_⟩
    by_cases hp : p
    · rw [if_pos hp] at h; simp [hp, h]
    · rw [if_neg hp] at h; simp [hp, h]
  · cases h
theorem asB_dead {v : SV E.toTys} {b : Bool} (h : asB v = some b) : v ≠ .dead := by rintro rfl; cases h
theorem out_move (S : Sim X w0 A φ st a w) {x : Operand} (ho : o.op = .move x ∨ o.op = .assign x) (h : K (ev st.tmps x) [] = some r) : Out X P w0 A st o a w Q K r := by
  refine ⟨_, _, h, good_pure S (u := a.eval x) ?_ (S.ev x)⟩
  rcases ho with ho | ho <;> simp [execOp, ho]
theorem out_pick (S : Sim X w0 A φ st a w) {rd : Nat → Blk E.toTys} {slot : Nat} {c x y : Operand} (ho : o.op = .pick c x y) (h : opRes C o.op (ev st.tmps) rd slot K = some r) : Out X P w0 A st o a w Q K r := by
  rw [ho] at h
  simp only [opRes] at h
  split at h
  · rename_i v hv
    obtain ⟨b, hb, h⟩ := br_some h
    have hc := S.ev (X := X) c
    rw [hv] at hc
    have hcv := (hc (asB_dead hb)).bool hb
    cases b
    · exact ⟨_, _, by simpa using h, good_pure S (u := a.eval y) (by simp [execOp, ho, hcv, asBool]) (S.ev y)⟩
    · exact ⟨_, _, by simpa using h, good_pure S (u := a.eval x) (by simp [execOp, ho, hcv, asBool]) (S.ev x)⟩
  · cases h
theorem run_guard_int (op : BinOp) (t : TypeId) (x y : Operand) {a b : Value} (ha : (∃ k n, a = .int k n) ∨ (∃ c, a = .bool c) ∨ ∃ p, a = .pointer p) : (eqGuard op t x y a b).run P w = .ok () w := by
  rcases ha with ⟨k, n, rfl⟩ | ⟨c, rfl⟩ | ⟨p, rfl⟩ <;> cases op <;> simp [eqGuard]
theorem wrap_wr (k : IntKind) (x : Int) : k.wrap x = wr k x := by
  cases k <;> first | rfl | (simp only [wr, IntKind.wrap_i64]; rfl)
theorem out_int (S : Sim X w0 A φ st a w) {op : BinOp} {t yt : TypeId} {x y : Operand} (ho : o.op = .binOp op t x y yt) {k k' : IntKind} {m n : Int} (hx : a.eval x = .int k m) (hy : a.eval y = .int k' n)
    (h : intBin op k m k' n K = some r) : Out X P w0 A st o a w Q K r := by
  have fin : ∀ v u, K v [] = some r → (binOp op t (.int k m) (.int k' n)).run P w = .ok u w → RA X φ w (okb A φ st.mem w) v u → Out X P w0 A st o a w Q K r := fun v u h1 h2 h3 =>
    ⟨v, [], h1, good_pure S (u := u) (by simp [execOp, ho, hx, hy, run_guard_int (P := P) (w := w) op t x y (b := .int k' n) (.inl ⟨k, m, rfl⟩), h2]) h3⟩
  have tst : ∀ (p : Prop) (d : Decidable p) (ng : Bool) (b : Bool), (match ng with | false => @decide p d | true => !@decide p d) = b → RA X φ w (okb A φ st.mem w) (vt p d ng) (.bool b) := fun p d ng b e => RA.s (by rw [← e]; rfl)
  unfold intBin at h
  split at h
  · split at h
    · rename_i hn
      refine fin _ _ h ?_ RA.ofInt
      have : ¬ n < 0 := by omega
      simp [binOp, Op.shift, this, shl]
    · cases h
  · split at h
    · rename_i hn
      refine fin _ _ h ?_ RA.ofInt
      have : ¬ n < 0 := by omega
      simp [binOp, Op.shift, this, shr, Int.fdiv_eq_ediv_of_nonneg _ (Int.le_of_lt (Int.pow_pos (by decide) : (0 : Int) < 2 ^ min n.toNat k.bits))]
    · cases h
  · rename_i op' h1 h2
    simp only [gd_dec] at h
    split at h
    · rename_i hk
      subst hk
      split at h
      · exact fin _ _ h (by simp [binOp, Op.intArith, wrap_wr]) RA.ofInt
      · exact fin _ _ h (by simp [binOp, Op.intArith, wrap_wr]) RA.ofInt
      · exact fin _ _ h (by simp [binOp, Op.intArith, wrap_wr]) RA.ofInt
      · split at h
        · cases h
        · rename_i hn
          exact fin _ _ h (by simp [binOp, Op.intDiv, hn, wrap_wr]) RA.ofInt
      · split at h
        · cases h
        · rename_i hn
          exact fin _ _ h (by simp [binOp, Op.intDiv, hn]) RA.ofInt
      · exact fin _ _ h (by simp [binOp, Op.intCmp]) (tst _ _ _ _ rfl)
      · exact fin _ _ h (by simp [binOp, Op.intCmp]) (tst _ _ _ _ rfl)
      · exact fin _ _ h (by simp [binOp, Op.intCmp]) (tst _ _ _ _ rfl)
      · exact fin _ _ h (by simp [binOp, Op.intCmp]) (tst _ _ _ _ rfl)
      · exact fin _ (.bool (m == n)) h (by simp [binOp, Op.intCmp]) (tst _ _ _ _ (by by_cases e : m = n <;> simp [e]))
      · exact fin _ (.bool (m != n)) h (by simp [binOp, Op.intCmp]) (tst _ _ _ _ (by by_cases e : m = n <;> simp [e, bne]))
      · refine fin _ (.int k (bits _ k m n)) h ?_ RA.ofInt
        revert h1 h2
        cases op <;> first | (intro h1 h2; exact absurd rfl h1) | (intro h1 h2; exact absurd rfl h2) | (simp_all [binOp, Op.intBits, bits]; done)
    · cases h
def Ints (us vs : Array Value) (off e : Nat) : Prop := ∀ i, off ≤ i → i < e → ∃ k m n, us[i]? = some (.int k m) ∧ vs[i]? = some (.int k n)
theorem ef1_run {d : Nat} {us vs : Array Value} : ∀ {fs : List Field} {off e : Nat}, EF1 P fs off e → Ints us vs off e → ∃ b, (Op.eqFields (d + 1) us vs fs).run P w = .ok b w ∧ (b = true ↔ ∀ i, off ≤ i → i < e → us[i]? = vs[i]?) ∧ off ≤ e
  | [], off, e, h, hi => by
    have h : off = e := h
    subst h
    exact ⟨true, by simp [Op.eqFields], ⟨fun _ i h1 h2 => by omega, fun _ => rfl⟩, Nat.le_refl _⟩
  | f :: fs, off, e, h, hi => by
    obtain ⟨hn, ho, ⟨kk, hk⟩, h⟩ := h
    have hle : off + 1 ≤ e := by
      have : ∀ {fs : List Field} {a b : Nat}, EF1 P fs a b → a ≤ b := by
        intro fs
        induction fs with
        | nil => intro a b h; exact Nat.le_of_eq h
        | cons g fs ih => intro a b h; have := ih h.2.2.2; omega
      exact this h
    obtain ⟨k, m, n, hu, hv⟩ := hi off (Nat.le_refl _) (by omega)
    obtain ⟨b, h1, h2, _⟩ := ef1_run (d := d) (us := us) (vs := vs) h (fun i g1 g2 => hi i (by omega) g2)
    have hag : (isAgg f.type).run P w = .ok false w := by simp [isAgg, run_underlying hk]
    have hpu : (part f.type us f.offset).run P w = .ok (.int k m) w := by simp [part, hag, ho, hu]
    have hpv : (part f.type vs f.offset).run P w = .ok (.int k n) w := by simp [part, hag, ho, hv]
    have heq := run_equalIn_int (P := P) w d f.type k kk m n hk
    refine ⟨(m == n) && b, ?_, ?_, by omega⟩
    · simp only [Op.eqFields, if_pos hn, Sem.run_bind, hpu, hpv, heq, Result.andThen_ok]
      by_cases c : m = n
      · subst c; simp [h1]
      · have hb : (m == n) = false := by simpa using c
        simp [hb]
    · rw [Bool.and_eq_true, h2]
      constructor
      · rintro ⟨e1, e2⟩ i g1 g2
        by_cases c : i = off
        · subst c; rw [hu, hv, eq_of_beq e1]
        · exact e2 i (by omega) g2
      · intro g
        have := g off (Nat.le_refl _) (by omega)
        rw [hu, hv] at this
        simp only [Option.some.injEq, Value.int.injEq, true_and] at this
        exact ⟨by simp [this], fun i g1 g2 => g i (by omega) g2⟩
theorem ef2_run {d : Nat} {us vs : Array Value} : ∀ {fs : List Field} {off e : Nat}, EF2 P fs off e → Ints us vs off e → off ≤ e ∧ ∃ b, (Op.eqFields (d + 2) us vs fs).run P w = .ok b w ∧ (b = true ↔ ∀ i, off ≤ i → i < e → us[i]? = vs[i]?)
  | [], off, e, h, hi => by
    have h : off = e := h
    subst h
    exact ⟨Nat.le_refl _, true, by simp [Op.eqFields], ⟨fun _ i h1 h2 => by omega, fun _ => rfl⟩⟩
  | f :: fs, off, e, h, hi => by
    have hle : ∀ {fs : List Field} {a b : Nat}, EF2 P fs a b → a ≤ b := by
      intro fs
      induction fs with
      | nil => intro a b h; exact Nat.le_of_eq h
      | cons g fs ih =>
        intro a b h
        rcases h.2.2 with ⟨_, h⟩ | ⟨gs, i, _, _, _, _, h⟩
        · have := ih h; omega
        · have := ih h; omega
    have hall := hle h
    obtain ⟨hn, ho, h⟩ := h
    rcases h with ⟨⟨kk, hk⟩, h⟩ | ⟨gs, inf, hg, hp, hinf, hgs, h⟩
    · have := hle h
      obtain ⟨k, m, n, hu, hv⟩ := hi off (Nat.le_refl _) (by omega)
      obtain ⟨_, b, h1, h2⟩ := ef2_run (d := d) (us := us) (vs := vs) h (fun i g1 g2 => hi i (by omega) g2)
      have hag : (isAgg f.type).run P w = .ok false w := by simp [isAgg, run_underlying hk]
      have hpu : (part f.type us f.offset).run P w = .ok (.int k m) w := by simp [part, hag, ho, hu]
      have hpv : (part f.type vs f.offset).run P w = .ok (.int k n) w := by simp [part, hag, ho, hv]
      have heq := run_equalIn_int (P := P) w (d + 1) f.type k kk m n hk
      refine ⟨hall, (m == n) && b, ?_, ?_⟩
      · simp only [Op.eqFields, if_pos hn, Sem.run_bind, hpu, hpv, heq, Result.andThen_ok]
        by_cases c : m = n
        · subst c; simp [h1]
        · have hb : (m == n) = false := by simpa using c
          simp [hb]
      · rw [Bool.and_eq_true, h2]
        constructor
        · rintro ⟨e1, e2⟩ i g1 g2
          by_cases c : i = off
          · subst c; rw [hu, hv, eq_of_beq e1]
          · exact e2 i (by omega) g2
        · intro g
          have := g off (Nat.le_refl _) (by omega)
          rw [hu, hv] at this
          simp only [Option.some.injEq, Value.int.injEq, true_and] at this
          exact ⟨by simp [this], fun i g1 g2 => g i (by omega) g2⟩
    · have := hle h
      obtain ⟨_, b, h1, h2⟩ := ef2_run (d := d) (us := us) (vs := vs) h (fun i g1 g2 => hi i (by omega) g2)
      have sub : ∀ (zs : Array Value) i, i < inf.size → (∀ j, off ≤ j → j < e → ∃ v, zs[j]? = some v) → (zs.extract off (off + inf.size))[i]? = zs[off + i]? := by
        intro zs i hi' hz
        obtain ⟨v, hv⟩ := hz (off + inf.size - 1) (by omega) (by omega)
        have := (Array.getElem?_eq_some_iff.1 hv).1
        rw [Array.getElem?_extract]
        simp; omega
      have zu : ∀ j, off ≤ j → j < e → ∃ v, us[j]? = some v := fun j h1 h2 => by obtain ⟨k, m, n, hu, _⟩ := hi j h1 h2; exact ⟨_, hu⟩
      have zv : ∀ j, off ≤ j → j < e → ∃ v, vs[j]? = some v := fun j h1 h2 => by obtain ⟨k, m, n, _, hv⟩ := hi j h1 h2; exact ⟨_, hv⟩
      have hf : P.fieldsOf f.type = gs := by simp [Program.fieldsOf, hg]
      obtain ⟨c, k1, k2, _⟩ := ef1_run (P := P) (w := w) (d := d) (us := us.extract off (off + inf.size)) (vs := vs.extract off (off + inf.size)) hgs fun i g1 g2 => by
        rw [sub us i g2 zu, sub vs i g2 zv]; exact hi (off + i) (by omega) (by omega)
      have hag : (isAgg f.type).run P w = .ok true w := by simp [isAgg, run_underlying hg]
      have hpu : (part f.type us f.offset).run P w = .ok (.agg (us.extract off (off + inf.size))) w := by simp [part, hag, ho, sizeOf, typeInfo, hinf]
      have hpv : (part f.type vs f.offset).run P w = .ok (.agg (vs.extract off (off + inf.size))) w := by simp [part, hag, ho, sizeOf, typeInfo, hinf]
      have heq := run_equalIn_struct (P := P) w (d + 1) f.type (us.extract off (off + inf.size)) (vs.extract off (off + inf.size)) (by rw [hf]; exact hg) hp
      rw [hf, k1] at heq
      refine ⟨hall, c && b, ?_, ?_⟩
      · simp only [Op.eqFields, if_pos hn, Sem.run_bind, hpu, hpv, heq, Result.andThen_ok]
        cases c <;> simp [h1]
      · rw [Bool.and_eq_true, h2, k2]
        constructor
        · rintro ⟨e1, e2⟩ i g1 g2
          by_cases c : i < off + inf.size
          · have := e1 (i - off) (by omega) (by omega)
            rw [sub us _ (by omega) zu, sub vs _ (by omega) zv, show off + (i - off) = i by omega] at this
            exact this
          · exact e2 i (by omega) g2
        · intro g
          refine ⟨fun i g1 g2 => ?_, fun i g1 g2 => g i (by omega) g2⟩
          rw [sub us _ g2 zu, sub vs _ g2 zv]
          exact g (off + i) (by omega) (by omega)
theorem eqs_vals {ok : Nat → Prop} : ∀ {xs ys : List (SV E.toTys)} {us vs : List Value} {p : (p : Prop) × Decidable p}, eqs xs ys = some p → All2 (RS X φ w ok) xs us → All2 (RS X φ w ok) ys vs →
    (∀ i, i < xs.length → ∃ k m n, us[i]? = some (.int k m) ∧ vs[i]? = some (.int k n)) ∧ (p.1 ↔ ∀ i, i < xs.length → us[i]? = vs[i]?)
  | [], _, _, _, _, h, _, _ => by simp [eqs] at h
  | x :: xs, [], _, _, _, h, _, _ => by cases x <;> first | (rename_i t _; cases t <;> simp [eqs] at h) | simp [eqs] at h
  | x :: xs, y :: ys, us, vs, p, h, hx, hy => by
    cases hx with
    | cons hx1 hx2 =>
    cases hy with
    | cons hy1 hy2 =>
    rename_i u us v vs
    have key : ∃ k m n, x = .val (.int k) m ∧ y = .val (.int k) n ∧ ((xs = [] ∧ ys = [] ∧ p = ⟨m = n, inferInstance⟩) ∨ ∃ q, eqs xs ys = some q ∧ p = ⟨m = n ∧ q.1, @instDecidableAnd _ _ inferInstance q.2⟩) := by
      cases x with
      | val tx m =>
        cases tx with
        | int k =>
          cases y with
          | val ty n =>
            cases ty with
            | int k' =>
              cases xs with
              | nil =>
                cases ys with
                | nil =>
                  simp only [eqs] at h
                  split at h
                  · rename_i hkk; subst hkk
                    exact ⟨k, m, n, rfl, rfl, .inl ⟨rfl, rfl, (Option.some.inj h).symm⟩⟩
                  · cases h
                | cons => simp [eqs] at h
              | cons x' xs' =>
                cases ys with
                | nil => simp [eqs] at h
                | cons y' ys' =>
                  rw [eqs] at h
                  split at h
                  · rename_i hkk; subst hkk
                    split at h
                    · rename_i q d hq
                      exact ⟨k, m, n, rfl, rfl, .inr ⟨⟨q, d⟩, hq, (Option.some.inj h).symm⟩⟩
                    · cases h
                  · cases h
            | _ => cases xs <;> cases ys <;> simp [eqs] at h
          | _ => cases xs <;> cases ys <;> simp [eqs] at h
        | _ => cases xs <;> cases ys <;> simp [eqs] at h
      | _ => cases xs <;> cases ys <;> simp [eqs] at h
    obtain ⟨k, m, n, rfl, rfl, hrest⟩ := key
    have eu : u = .int k m := by simpa using Rep.int.1 hx1.2
    have ev : v = .int k n := by simpa using Rep.int.1 hy1.2
    subst eu ev
    rcases hrest with ⟨rfl, rfl, rfl⟩ | ⟨q, hq, rfl⟩
    · refine ⟨fun i hi => ?_, ⟨fun e i hi => ?_, fun g => ?_⟩⟩
      · obtain rfl : i = 0 := by simp at hi; exact hi
        exact ⟨k, m, n, rfl, rfl⟩
      · obtain rfl : i = 0 := by simp at hi; exact hi
        have e : m = n := e
        simp [e]
      · have := g 0 (by simp)
        simp only [List.getElem?_cons_zero, Option.some.injEq, Value.int.injEq, true_and] at this
        exact this
    · obtain ⟨g1, g2⟩ := eqs_vals hq hx2 hy2
      refine ⟨fun i hi => ?_, ⟨fun e i hi => ?_, fun g => ?_⟩⟩
      · cases i with
        | zero => exact ⟨k, m, n, rfl, rfl⟩
        | succ i => obtain ⟨a, b, c, h1, h2⟩ := g1 i (by simpa using hi); exact ⟨a, b, c, by simpa using h1, by simpa using h2⟩
      · have e : m = n ∧ q.1 := e
        cases i with
        | zero => simp [e.1]
        | succ i => simpa using g2.1 e.2 i (by simpa using hi)
      · have h0 := g 0 (by simp)
        simp only [List.getElem?_cons_zero, Option.some.injEq, Value.int.injEq, true_and] at h0
        exact ⟨h0, g2.2 fun i hi => by simpa using g (i + 1) (by simpa using hi)⟩
theorem run_eq_nil {d : Nat} {t e : TypeId} (hu : P.underlying t = some (.pointer e)) (p : Option Addr) : (Op.equalIn (d + 1) t (.pointer p) (.pointer none)).run P w = .ok p.isNone w := by
  simp only [Op.equalIn, Sem.run_bind, run_underlying hu, Result.andThen_ok]
  cases p <;> rfl
theorem run_bin_eq {t : TypeId} (p : Option Addr) : binOp .eql t (.pointer p) (.pointer none) = (do pure (.bool (← Op.equal t (.pointer p) (.pointer none)))) := rfl
theorem run_bin_ne {t : TypeId} (p : Option Addr) : binOp .neq t (.pointer p) (.pointer none) = (do pure (.bool (!(← Op.equal t (.pointer p) (.pointer none))))) := rfl
theorem run_eq_nil' {t e : TypeId} (hu : P.underlying t = some (.pointer e)) (p : Option Addr) : (Op.equal t (.pointer p) (.pointer none)).run P w = .ok p.isNone w := run_eq_nil (d := 9999) hu p
theorem out_bin (T : Tie X P C) (S : Sim X w0 A φ st a w) {op : BinOp} {t yt : TypeId} {x y : Operand} (ho : o.op = .binOp op t x y yt)
    (h : opBin (C.eqs t) (C.ty t) op (ev st.tmps x) (ev st.tmps y) K = some r) : Out X P w0 A st o a w Q K r := by
  have hx := S.ev (X := X) x
  have hy := S.ev (X := X) y
  unfold opBin at h
  split at h
  · rename_i ex ey
    rw [ex] at hx; rw [ey] at hy
    exact out_int S ho hx.int hy.int h
  · rename_i u v hni ex ey
    rw [ex] at hx; rw [ey] at hy
    unfold opEqS at h
    split at h
    · rename_i hb
      have hbt : ∃ d, P.underlying t = some d ∧ d = .bool := by
        cases hc : C.ty t with
        | none => rw [hc] at hb; cases hb
        | some ty =>
          obtain ⟨d, h1, h2⟩ := T.desc t ty hc
          rw [hc] at hb
          cases ty <;> first | (cases hb; done) | skip
          cases d <;> first | exact ⟨_, h1, rfl⟩ | cases h2
      obtain ⟨d, hd, rfl⟩ := hbt
      split at h
      · rename_i b c hu hv
        have h1 := (hx (asB_dead hu)).bool hu
        have h2 := (hy (asB_dead hv)).bool hv
        refine ⟨_, _, h, good_pure S (u := .bool (b == c)) ?_ (RA.s ?_)⟩
        · simp [execOp, ho, h1, h2, run_guard_int (P := P) (w := w) .eql t x y (b := .bool c) (.inr (.inl ⟨b, rfl⟩)), binOp, Op.equal, Op.maxDepth, run_equalIn_bool' (P := P) w _ t b c hd]
        · show _ = _
          by_cases e : b = c <;> simp [e]
      · rename_i b c hu hv
        have h1 := (hx (asB_dead hu)).bool hu
        have h2 := (hy (asB_dead hv)).bool hv
        refine ⟨_, _, h, good_pure S (u := .bool (!(b == c))) ?_ (RA.s ?_)⟩
        · simp [execOp, ho, h1, h2, run_guard_int (P := P) (w := w) .neq t x y (b := .bool c) (.inr (.inl ⟨b, rfl⟩)), binOp, Op.equal, Op.maxDepth, run_equalIn_bool' (P := P) w _ t b c hd]
        · show _ = _
          by_cases e : b = c <;> simp [e]
      · cases h
    · have hpt : isP (C.ty t) = true → ∃ e, P.underlying t = some (.pointer e) := by
        intro hp
        cases hc : C.ty t with
        | none => rw [hc] at hp; cases hp
        | some ty =>
          obtain ⟨d, h1, h2⟩ := T.desc t ty hc
          rw [hc] at hp
          cases ty <;> first | (cases hp; done) | skip
          cases d <;> first | exact ⟨_, h1⟩ | cases h2
      split at h
      · rename_i t' z hp
        obtain ⟨e, hu⟩ := hpt hp
        have h1 := (hx (by intro h; cases h))
        have h2 : a.eval y = .pointer none := hy (by intro h; cases h)
        cases z with
        | none =>
          have h1 : a.eval x = .pointer none := by simpa using Rep.nil.1 h1.2
          refine ⟨_, _, h, good_pure S (u := .bool true) ?_ RA.ofBool⟩
          simp [execOp, ho, h1, h2, run_guard_int (P := P) (w := w) .eql t x y (b := .pointer none) (.inr (.inr ⟨none, rfl⟩)), run_bin_eq, run_bin_ne, run_eq_nil' hu]
        | some z =>
          obtain ⟨b, o', es, h1, _⟩ := Rep.ptr.1 h1.2
          have h1 : a.eval x = .pointer (some ⟨b, o', none⟩) := by simpa using h1
          refine ⟨_, _, h, good_pure S (u := .bool false) ?_ RA.ofBool⟩
          simp [execOp, ho, h1, h2, run_guard_int (P := P) (w := w) .eql t x y (b := .pointer none) (.inr (.inr ⟨_, rfl⟩)), run_bin_eq, run_bin_ne, run_eq_nil' hu]
      · rename_i t' z hp
        obtain ⟨e, hu⟩ := hpt hp
        have h1 := (hx (by intro h; cases h))
        have h2 : a.eval y = .pointer none := hy (by intro h; cases h)
        cases z with
        | none =>
          have h1 : a.eval x = .pointer none := by simpa using Rep.nil.1 h1.2
          refine ⟨_, _, h, good_pure S (u := .bool false) ?_ RA.ofBool⟩
          simp [execOp, ho, h1, h2, run_guard_int (P := P) (w := w) .neq t x y (b := .pointer none) (.inr (.inr ⟨none, rfl⟩)), run_bin_eq, run_bin_ne, run_eq_nil' hu]
        | some z =>
          obtain ⟨b, o', es, h1, _⟩ := Rep.ptr.1 h1.2
          have h1 : a.eval x = .pointer (some ⟨b, o', none⟩) := by simpa using h1
          refine ⟨_, _, h, good_pure S (u := .bool true) ?_ RA.ofBool⟩
          simp [execOp, ho, h1, h2, run_guard_int (P := P) (w := w) .neq t x y (b := .pointer none) (.inr (.inr ⟨_, rfl⟩)), run_bin_eq, run_bin_ne, run_eq_nil' hu]
      · cases h
  · rename_i xs ys ex ey
    rw [ex] at hx; rw [ey] at hy
    obtain ⟨us, h1, hxs⟩ := hx
    obtain ⟨vs, h2, hys⟩ := hy
    have key : len xs = C.eqs t → ∀ p, eqs xs ys = some p → (Op.equal t (.agg us.toArray) (.agg vs.toArray)).run P w = .ok (@decide p.1 p.2) w ∧ ∀ op, (eqGuard op t x y (.agg us.toArray) (.agg vs.toArray)).run P w = .ok () w := by
      intro hq p hp
      rw [len_eq] at hq
      have h0 : 0 < C.eqs t := by
        rw [← hq]
        cases xs with
        | nil => simp [B.eqs] at hp
        | cons => simp
      obtain ⟨fs, g1, g2, g3, g4⟩ := T.eqs t h0
      have hf : P.fieldsOf t = fs := by simp [Program.fieldsOf, g1]
      refine ⟨?_, fun op => by cases op <;> simp [eqGuard, g3]⟩
      unfold Op.equal Op.maxDepth
      rw [run_equalIn_struct (P := P) w 9999 t _ _ (by rw [hf]; exact g1) g2, hf]
      obtain ⟨k1, k2⟩ := eqs_vals hp hxs hys
      obtain ⟨_, b, k3, k4⟩ := ef2_run (P := P) (w := w) (d := 9997) (us := us.toArray) (vs := vs.toArray) g4 fun i _ hi => by
        obtain ⟨k, m, n, e1, e2⟩ := k1 i (by omega)
        exact ⟨k, m, n, by simpa using e1, by simpa using e2⟩
      rw [k3]
      have : b = @decide p.1 p.2 := by
        rw [Bool.eq_iff_iff, k4, @decide_eq_true_iff _ p.2, k2, hq]
        constructor
        · intro g i hi; simpa using g i (Nat.zero_le _) hi
        · intro g i _ hi; simpa using g i hi
      rw [this]
    split at h
    · rename_i p d hq hp
      obtain ⟨k1, k2⟩ := key (Nat.eq_of_beq_eq_true hq) _ hp
      exact ⟨_, _, h, good_pure S (u := .bool (@decide p d)) (by simp [execOp, ho, h1, h2, k2, binOp, k1]) (RA.s rfl)⟩
    · rename_i p d hq hp
      obtain ⟨k1, k2⟩ := key (Nat.eq_of_beq_eq_true hq) _ hp
      exact ⟨_, _, h, good_pure S (u := .bool (!@decide p d)) (by simp [execOp, ho, h1, h2, k2, binOp, k1]) (RA.s rfl)⟩
    · cases h
  · cases h
theorem out_un (S : Sim X w0 A φ st a w) {op : UnOp} {t : TypeId} {x : Operand} (ho : o.op = .unOp op t x) (h : opUn op (ev st.tmps x) K = some r) : Out X P w0 A st o a w Q K r := by
  have hx := S.ev (X := X) x
  unfold opUn at h
  split at h
  · rename_i b ex
    rw [ex] at hx
    have := (hx (by intro h; cases h)).bool rfl
    exact ⟨_, _, h, good_pure S (u := .bool (!b)) (by simp [execOp, ho, this, Op.unary]) RA.ofBool⟩
  · rename_i p d n ex
    rw [ex] at hx
    cases n with
    | false =>
      have hx := (hx (by intro h; cases h)).bool (b := @decide p d) rfl
      exact ⟨_, _, h, good_pure S (u := .bool (!@decide p d)) (by simp [execOp, ho, hx, Op.unary]) (RA.s rfl)⟩
    | true =>
      have hx := (hx (by intro h; cases h)).bool (b := !@decide p d) rfl
      exact ⟨_, _, h, good_pure S (u := .bool (@decide p d)) (by simp [execOp, ho, hx, Op.unary]) (RA.s rfl)⟩
  · rename_i k n ex
    rw [ex] at hx
    exact ⟨_, _, h, good_pure S (u := .int k (wr k (0 - n))) (by simp [execOp, ho, hx.int, Op.unary, Op.intArith, wrap_wr]) RA.ofInt⟩
  · rename_i k n ex
    rw [ex] at hx
    exact ⟨_, _, h, good_pure S (u := .int k (bits .xor k (if k.signed then -1 else k.max) n)) (by simp [execOp, ho, hx.int, Op.unary, Op.intBits, bits]) RA.ofInt⟩
  · cases h
theorem Tie.int (T : Tie X P C) {t : TypeId} {k : IntKind} (h : C.ty t = some (.int k)) : P.underlying t = some (.int k) := by
  obtain ⟨d, h1, h2⟩ := T.desc t _ h
  cases d <;> first | (cases h2; done) | (have h2 : k = _ := h2; subst h2; exact h1)
theorem out_conv (T : Tie X P C) (S : Sim X w0 A φ st a w) {s t : TypeId} {x : Operand} (ho : o.op = .convert s t x) (h : opConv C s t (ev st.tmps x) K = some r) : Out X P w0 A st o a w Q K r := by
  have hx := S.ev (X := X) x
  unfold opConv at h
  split at h
  · rename_i k' k k'' n h1 h2 ex
    rw [ex] at hx
    exact ⟨_, _, h, good_pure S (u := .int k (wr k n)) (by simp [execOp, ho, hx.int, convert, run_underlying (T.int h1), run_underlying (T.int h2), Conv.intToInt, wrap_wr]) RA.ofInt⟩
  · cases h
theorem out_extract (S : Sim X w0 A φ st a w) {i : Nat} {x : Operand} (ho : o.op = .extract x i) (h : opExtract (ev st.tmps x) i K = some r) : Out X P w0 A st o a w Q K r := by
  have hx := S.ev (X := X) x
  unfold opExtract at h
  split at h
  · rename_i vs ex
    rw [ex] at hx
    obtain ⟨us, hu, hx⟩ := hx
    split at h
    · rename_i v hv
      obtain ⟨u, h1, h2⟩ := hx.get hv
      exact ⟨_, _, h, good_pure S (u := u) (by simp [execOp, ho, hu, Instr.extract, h1]) h2⟩
    · cases h
  · cases h
end
end Go.Proofs.Ytlamlgfngpmhgaa.V.B
namespace Go.Proofs.Ytlamlgfngpmhgaa.V.B
open Go.RowKit
set_option linter.unusedVariables false
set_option linter.unusedSimpArgs false
section
variable {E : Env} {X : XRep E} {P : Program} {C : Ctx E} {w0 : W0} {w : World} {A : Nat → Prop} {φ : Nat → Option Hd} {st : St E.toTys} {a : Act} {o : Oper} {R : Type} {r : R} {Q : Exit → Act → World → Prop} {K : KT E R}
variable {ok : Nat → Prop}
theorem flatL_rep : ∀ {ts : List Ty} {x : HL E.toTys ts} {cs : List Value}, RVL (Rep X w ok) ts x cs → All2 (RS X φ w ok) (flatL ts x) cs
  | [], _, _, h => by cases h; exact .nil
  | t :: ts, x, cs, h => by
    obtain ⟨v, r, rfl, h1, h2, h3⟩ := h
    exact .cons ⟨h1, h2⟩ (flatL_rep h3)
theorem flat_rep {t : Ty} {x : den E.toTys t} {cs : List Value} (ha : ∀ n u, t ≠ .arr n u) (h : Rep X w ok t x cs) : All2 (RS X φ w ok) (flat t x) cs := by
  have one : ∀ t' : Ty, t' = t → (∀ n, t' ≠ .st n) → ∃ v, cs = [v] ∧ v.oneCell' = true := by
    rintro _ rfl hs
    obtain ⟨d, h⟩ := h
    exact RVt.cells hs ha h
  cases t with
  | st n => exact flatL_rep (Rep.st.1 h)
  | arr n u => exact absurd rfl (ha n u)
  | _ =>
    obtain ⟨v, rfl, hv⟩ := one _ rfl (by intro n hn; cases hn)
    exact .cons ⟨hv, h⟩ .nil
theorem one_rep {t : Ty} {x : den E.toTys t} {cs : List Value} {v : Value} (h : Rep X w ok t x cs) (hs : ∀ n, t = .st n → v = .agg cs.toArray) (hv : (∀ n, t ≠ .st n) → (∀ n u, t ≠ .arr n u) → cs = [v]) : RA X φ w ok (.c (one E t x)) v := by
  cases t with
  | st n => exact ⟨cs, hs n rfl, flatL_rep (Rep.st.1 h)⟩
  | arr n u => exact fun h => absurd rfl h
  | em =>
    have e := hv (by intro n hn; cases hn) (by intro n u hn; cases hn)
    subst e
    obtain ⟨a, e⟩ := Rep.em.1 h
    simp at e
    exact fun _ => ⟨a, e⟩
  | _ =>
    have e := hv (by intro n hn; cases hn) (by intro n u hn; cases hn)
    subst e
    obtain ⟨d, h'⟩ := h
    obtain ⟨v', e, h1⟩ := RVt.cells (by intro n hn; cases hn) (by intro n u hn; cases hn) h'
    simp at e
    subst e
    exact fun _ => ⟨h1, ⟨d, h'⟩⟩
/-- The value that cells of a type are. -/
def vOf (t : Ty) (cs : List Value) : Value := match t with
  | .st _ => .agg cs.toArray
  | .arr _ _ => .agg cs.toArray
  | _ => cs.headD (.tuple #[])
theorem oneA_rep {t : Ty} {x : den E.toTys t} {cs : List Value} (h : Rep X w ok t x cs) : RA X φ w ok (oneA E t x) (vOf t cs) := by
  have e : ∀ t' : Ty, t' = t → (∀ n, t' ≠ .st n) → (∀ n u, t' ≠ .arr n u) → cs = [cs.headD (.tuple #[])] := by
    rintro _ rfl h1 h2
    obtain ⟨d, h⟩ := h
    obtain ⟨v, rfl, _⟩ := RVt.cells h1 h2 h
    rfl
  cases t with
  | arr n u => exact ⟨cs, rfl, h⟩
  | st n => exact one_rep h (fun n hn => rfl) (fun h1 => absurd rfl (h1 n))
  | _ => exact one_rep h (fun n hn => by cases hn) fun h1 h2 => e _ rfl h1 h2
theorem add_off (b o n : Nat) : (⟨b, o, none⟩ : Addr).add n = ⟨b, o + n, none⟩ := by unfold Addr.add; split <;> simp_all
theorem At.list {b o : Nat} {cs : List Value} (h : At w b o cs) : (loadCells ⟨b, o, none⟩ cs.length).run P w = .ok cs.toArray w :=
  run_loadCells_list (P := P) w ⟨b, o, none⟩ cs fun j v hj => by rw [add_off]; exact h j v hj
theorem run_loadFrom (T : Tie X P C) {t b p off : Nat} {cs : List (SV E.toTys)} {vs : List Value} (hA : At w b p vs) (h2 : All2 (RS X φ w ok) cs vs) (h : loadFrom C t cs off K = some r) :
    ∃ v u, K v [] = some r ∧ (loadVar t ⟨b, p + off, none⟩).run P w = .ok u w ∧ RA X φ w ok v u := by
  unfold loadFrom at h
  have scalar : ∀ ty, C.ty t = some ty → (∀ n, ty ≠ .st n) → (∀ n u, ty ≠ .arr n u) → ∀ v, cut cs off 1 = some [v] → K (.c (.s v)) [] = some r → ∃ v u, K v [] = some r ∧ (loadVar t ⟨b, p + off, none⟩).run P w = .ok u w ∧ RA X φ w ok v u := by
    intro ty hty hs ha v hc hK
    obtain ⟨d, hd, hm⟩ := T.desc t ty hty
    obtain ⟨hl, e⟩ := cut_some hc
    have hv : cs[off]? = some v := by
      have : ([v] : List (SV E.toTys))[0]? = some v := rfl
      rw [e, List.getElem?_take, if_pos (by omega), List.getElem?_drop] at this
      simpa using this
    obtain ⟨u, hu, hR⟩ := h2.get hv
    refine ⟨_, u, hK, ?_, RA.s hR⟩
    have hcell := hA off u hu
    have hag : (match d with | .struct _ | .array _ _ => true | _ => false) = false := by
      cases ty <;> cases d <;> first | rfl | (cases hm; done) | exact absurd rfl (hs _) | exact absurd rfl (ha _ _)
    have : (isAgg t).run P w = .ok false w := by
      simp only [isAgg, Sem.run_bind, run_underlying hd, Result.andThen_ok]
      cases d <;> first | rfl | cases hag
    simp [loadVar, this, hcell]
  split at h
  · rename_i n hty
    obtain ⟨i, z, hi, hz, hsz, hpos, _⟩ := T.info t _ hty
    obtain ⟨d, hd, hm⟩ := T.desc t _ hty
    split at h
    · rename_i l hc
      obtain ⟨hl, e⟩ := cut_some hc
      subst e
      have hl2 := h2.length
      refine ⟨_, .agg ((vs.drop off).take (sz E (.st n))).toArray, h, ?_, ⟨_, rfl, (h2.drop off).take _⟩⟩
      have hag : (isAgg t).run P w = .ok true w := by
        simp only [isAgg, Sem.run_bind, run_underlying hd, Result.andThen_ok]
        cases d <;> first | rfl | cases hm
      have hA' := hA.sub off (sz E (.st n))
      have hll : ((vs.drop off).take (sz E (.st n))).length = i.size := by
        rw [List.length_take, List.length_drop, hsz]; omega
      have hld := hA'.list (P := P)
      rw [hll] at hld
      simp [loadVar, hag, sizeOf, typeInfo, hi, hld]
    · cases h
  · cases h
  · rename_i ty hst har hty
    split at h
    · rename_i v hc
      exact scalar ty hty (fun n e => hst n e) (fun n u e => har n u e) v hc h
    · cases h
  · cases h
theorem rd_some {mem : List (Blk E.toTys)} {rd : Nat → Blk E.toTys} {id : Nat} {b : Blk E.toTys} (hrd : ∀ id, rd id = nth .gone mem id ∨ rd id = .gone) (h : rd id = b) (hb : live b) : mem[id]? = some b := by
  rcases hrd id with e | e
  · rw [e, nth_eq] at h
    cases hm : mem[id]? with
    | none => simp [List.getD, hm] at h; subst h; cases hb
    | some c => simp [List.getD, hm] at h; subst h; rfl
  · rw [e] at h; subst h; cases hb
theorem At.row {b : Nat} {c : Array Value} {e : TypeId} {f : Nat × Nat} (h : w.heap[b]? = some (.cells c e f)) : At w b 0 c.toList := fun u v hu => by
  rw [cell_of_row w b _ c e f h, Nat.zero_add]; simpa using hu
theorem At.take {b o n : Nat} {L : List Value} (h : At w b o L) : At w b o (L.take n) := fun u v hu => by
  rw [List.getElem?_take] at hu
  split at hu
  · exact h u v hu
  · cases hu
/-- An element of a row of the call's own, as cells. -/
theorem elt_cells {u : Ty} {xs : List (den E.toTys u)} {L : List Value} {b : Nat} {i : Int} (hA : At w b 0 L) (hL : Lay X w ok u xs L) (h0 : 0 ≤ i) (hi : i.toNat < xs.length) :
    Rep X w ok u (rdA E u xs i) ((L.drop (i.toNat * sz E u)).take (sz E u)) ∧ At w b (i.toNat * sz E u) ((L.drop (i.toNat * sz E u)).take (sz E u)) := by
  have hx : xs[i.toNat]? = some (rdA E u xs i) := by
    unfold rdA
    rw [List.getD_eq_getElem?_getD, List.getElem?_eq_getElem hi]; rfl
  refine ⟨hL.get hx, ?_⟩
  have := hA.sub (i.toNat * sz E u) (sz E u)
  rwa [Nat.zero_add] at this
theorem loadFrom_arr {t off : Nat} {u : Ty} {x : den E.toTys u} {n : Nat} {v : Ty} (T : Tie X P C) (h : loadFrom C t (flat u x) off K = some r) : ∀ n v, u ≠ .arr n v := by
  rintro n v rfl
  unfold loadFrom at h
  simp only [flat] at h
  split at h
  · rename_i m hty
    obtain ⟨i, z, hi, hz, hsz, hpos, _⟩ := T.info t _ hty
    split at h
    · rename_i l hc
      have := (cut_some hc).1
      simp at this
      omega
    · cases h
  · cases h
  · split at h
    · rename_i l hc
      have := (cut_some hc).1
      simp at this
    · cases h
  · cases h
theorem load_run (T : Tie X P C) (S : Sim X w0 A φ st a w) {t : TypeId} {xa : AV E.toTys} {xv : Value} {rd : Nat → Blk E.toTys} (hrd : ∀ id, rd id = nth .gone st.mem id ∨ rd id = .gone) (hx : RA X φ w (okb A φ st.mem w) xa xv)
    (h : opLoad C t rd xa K = some r) : ∃ v u ad, K v [] = some r ∧ xv = .pointer (some ad) ∧ (loadVar t ad).run P w = .ok u w ∧ RA X φ w (okb A φ st.mem w) v u := by
  have fin : ∀ (b p off : Nat) (cs : List (SV E.toTys)) (vs : List Value), xv = .pointer (some ⟨b, p + off, none⟩) → At w b p vs → All2 (RS X φ w (okb A φ st.mem w)) cs vs → loadFrom C t cs off K = some r → ∃ v u ad, K v [] = some r ∧ xv = .pointer (some ad) ∧ (loadVar t ad).run P w = .ok u w ∧ RA X φ w (okb A φ st.mem w) v u := by
    intro b p off cs vs he hA h2 h
    obtain ⟨v, u, h1, h2, h3⟩ := run_loadFrom T hA h2 h
    exact ⟨v, u, _, h1, he, h2, h3⟩
  unfold opLoad at h
  simp only [gd_dec] at h
  split at h
  · rename_i id off
    obtain ⟨hd, b, h1, h2, h3⟩ := hx (by intro h; cases h)
    split at h
    · rename_i cs hm
      obtain ⟨b', c, e, g1, g2, g3⟩ := S.mm id _ (rd_some hrd hm trivial)
      rw [h1] at g1; cases g1
      cases h2
      exact fin b 0 off cs c.toList (by rw [h3, Nat.zero_add]) (At.row g2) g3 h
    · rename_i n u xs hm
      split at h
      · rename_i hty
        split at h
        · rename_i heq
          subst heq
          obtain ⟨b', c, e, g1, g2, g3, g4⟩ := S.mm id _ (rd_some hrd hm trivial)
          rw [h1] at g1; cases g1
          cases h2
          obtain ⟨i, z, hi, hz, hsz, hpos, _⟩ := T.info t _ hty
          obtain ⟨d, hd, hmm⟩ := T.desc t _ hty
          have hl : c.size = i.size := by
            rw [hsz, sz, ← g3, ← g4.length]; simp
          have hag : (isAgg t).run P w = .ok true w := by
            simp only [isAgg, Sem.run_bind, run_underlying hd, Result.andThen_ok]
            cases d <;> first | rfl | cases hmm
          have hld := (At.row g2).list (P := P)
          rw [Array.length_toList, hl, Array.toArray_toList] at hld
          exact ⟨_, .agg c, _, h, h3, by simp [loadVar, hag, sizeOf, typeInfo, hi, hld], c.toList, by simp, Rep.arrL.2 ⟨g3, g4⟩⟩
        · cases h
      · cases h
    · cases h
  · rename_i id u i off
    obtain ⟨hd, b, h1, h2, h0, hn, h3⟩ := hx (by intro h; cases h)
    split at h
    · rename_i u' xs hm
      split at h
      · rename_i ys hc
        obtain ⟨e, he⟩ := conv_some hc
        cases e
        have he : xs = ys := he
        subst he
        have hna := loadFrom_arr (n := 0) (v := .bool) T h
        obtain ⟨a', cap, bl, g1, g2, g3⟩ := S.mm id _ (rd_some hrd hm trivial)
        rw [h1] at g1; cases g1
        rcases g3 with ⟨rfl, rfl⟩ | ⟨b', c, e, L, rfl, rfl, k1, k2, k3, k4⟩
        · cases h2
        cases h2
        obtain ⟨r1, r2⟩ := elt_cells (L := L) (by rw [← k4]; exact (At.row k1).take) k3 h0 hn
        exact fin _ _ off _ _ h3 r2 (flat_rep hna r1) h
      · cases h
    · rename_i n u' xs hm
      split at h
      · rename_i ys hc
        obtain ⟨e, he⟩ := conv_some hc
        cases e
        have he : xs = ys := he
        subst he
        have hna := loadFrom_arr (n := 0) (v := .bool) T h
        obtain ⟨b', c, e, g1, g2, g3, g4⟩ := S.mm id _ (rd_some hrd hm trivial)
        rw [h1] at g1; cases g1
        cases h2
        obtain ⟨r1, r2⟩ := elt_cells (At.row g2) g4 h0 (by rw [g3]; exact hn)
        exact fin _ _ off _ _ h3 r2 (flat_rep hna r1) h
      · cases h
    · cases h
  · rename_i u y off
    obtain ⟨b, p, es, h1, h2, h3, h4⟩ := hx (by intro h; cases h)
    have hna := loadFrom_arr (n := 0) (v := .bool) T h
    exact fin b p off _ es h1 h4 (flat_rep hna h3) h
  · rename_i u y
    have hx := (hx (by intro h; cases h)).2
    split at h
    · rename_i y
      obtain ⟨b, p, es, h1, h2, h3, h4⟩ := Rep.ptr.1 hx
      have hna := loadFrom_arr (n := 0) (v := .bool) T h
      exact fin b p 0 _ es (by simpa using h1) h4 (flat_rep hna h3) h
    · cases h
  · cases h
theorem out_load (T : Tie X P C) (S : Sim X w0 A φ st a w) {t : TypeId} {x : Operand} {rd : Nat → Blk E.toTys} (hrd : ∀ id, rd id = nth .gone st.mem id ∨ rd id = .gone) (ho : o.op = .load t x)
    (h : opLoad C t rd (ev st.tmps x) K = some r) : Out X P w0 A st o a w Q K r := by
  obtain ⟨v, u, ad, h1, h2, h3, h4⟩ := load_run T S hrd (S.ev x) h
  exact ⟨v, [], h1, good_pure S (u := u) (by simp [execOp, ho, Instr.loadAt, h2, Instr.sureAddr, h3]) h4⟩
theorem run_fieldAt (T : Tie X P C) {t f o' ft : Nat} (h : C.fld t f = some (o', ft)) (b p : Nat) : (Instr.fieldAt t (.pointer (some ⟨b, p, none⟩)) f).run P w = .ok (.pointer (some ⟨b, p + o', none⟩)) w := by
  obtain ⟨fs, fd, h1, h2, rfl, rfl, ty, h3⟩ := T.fld t f o' ft h
  obtain ⟨i, z, hi, hz, hsz, hpos, _⟩ := T.info _ _ h3
  have : ¬ i.size = 0 := by omega
  simp [Instr.fieldAt, run_underlying h1, h2, Instr.sureAddr, fieldPlace, sizeOf, typeInfo, hi, this, add_off]
theorem out_fieldAddr (T : Tie X P C) (S : Sim X w0 A φ st a w) {t f : Nat} {x : Operand} (ho : o.op = .fieldAddr t x f) (h : opFieldAddr C t f (ev st.tmps x) K = some r) : Out X P w0 A st o a w Q K r := by
  have hx := S.ev (X := X) x
  unfold opFieldAddr at h
  split at h
  · rename_i o' ft v hf ex
    rw [ex] at hx
    split at h
    · rename_i id off
      obtain ⟨hd, b, h1, h2, h3⟩ := hx (by intro h; cases h)
      exact ⟨_, _, h, good_pure S (u := .pointer (some ⟨b, off + o', none⟩)) (by simp [execOp, ho, h3, run_fieldAt T hf]) (RA.s ⟨hd, b, h1, h2, rfl⟩)⟩
    · rename_i id u i off
      obtain ⟨hd, b, h1, h2, h0, hn, h3⟩ := hx (by intro h; cases h)
      exact ⟨_, _, h, good_pure S (u := .pointer (some ⟨b, i.toNat * sz E u + off + o', none⟩)) (by simp [execOp, ho, h3, run_fieldAt T hf]) (RA.s ⟨hd, b, h1, h2, h0, hn, by rw [Nat.add_assoc]⟩)⟩
    · rename_i u y off
      obtain ⟨b, p, es, h1, h2, h3, h4⟩ := hx (by intro h; cases h)
      exact ⟨_, _, h, good_pure S (u := .pointer (some ⟨b, p + off + o', none⟩)) (by simp [execOp, ho, h1, run_fieldAt T hf]) (RA.s ⟨b, p, es, by rw [Nat.add_assoc], h2, h3, h4⟩)⟩
    · rename_i u y
      have hx := (hx (by intro h; cases h)).2
      split at h
      · rename_i y
        obtain ⟨b, p, es, h1, h2, h3, h4⟩ := Rep.ptr.1 hx
        have h1 : a.eval x = .pointer (some ⟨b, p, none⟩) := by simpa using h1
        exact ⟨_, _, h, good_pure S (u := .pointer (some ⟨b, p + o', none⟩)) (by simp [execOp, ho, h1, run_fieldAt T hf]) (RA.s ⟨b, p, es, rfl, h2, h3, h4⟩)⟩
      · cases h
    · cases h
  · cases h
theorem run_part (T : Tie X P C) {t off : Nat} {cs : List (SV E.toTys)} {vs : List Value} (h2 : All2 (RS X φ w ok) cs vs) (h : loadFrom C t cs off K = some r) :
    ∃ v u, K v [] = some r ∧ (part t vs.toArray off).run P w = .ok u w ∧ RA X φ w ok v u := by
  unfold loadFrom at h
  split at h
  · rename_i n hty
    obtain ⟨i, z, hi, hz, hsz, hpos, _⟩ := T.info t _ hty
    obtain ⟨d, hd, hm⟩ := T.desc t _ hty
    split at h
    · rename_i l hc
      obtain ⟨hl, e⟩ := cut_some hc
      subst e
      have hl2 := h2.length
      have hag : (isAgg t).run P w = .ok true w := by
        simp only [isAgg, Sem.run_bind, run_underlying hd, Result.andThen_ok]
        cases d <;> first | rfl | cases hm
      refine ⟨_, .agg ((vs.drop off).take (sz E (.st n))).toArray, h, ?_, ⟨_, rfl, (h2.drop off).take _⟩⟩
      simp [part, hag, sizeOf, typeInfo, hi, hsz, List.extract_toArray, List.extract_eq_take_drop]
    · cases h
  · cases h
  · rename_i ty hst har hty
    obtain ⟨d, hd, hm⟩ := T.desc t ty hty
    split at h
    · rename_i v hc
      obtain ⟨hl, e⟩ := cut_some hc
      have hv : cs[off]? = some v := by
        have : ([v] : List (SV E.toTys))[0]? = some v := rfl
        rw [e, List.getElem?_take, if_pos (by omega), List.getElem?_drop] at this
        simpa using this
      obtain ⟨u, hu, hR⟩ := h2.get hv
      refine ⟨_, u, h, ?_, RA.s hR⟩
      have hag : (match d with | .struct _ | .array _ _ => true | _ => false) = false := by
        cases ty <;> cases d <;> first | rfl | (cases hm; done) | exact absurd rfl (hst _) | exact absurd rfl (har _ _)
      have : (isAgg t).run P w = .ok false w := by
        simp only [isAgg, Sem.run_bind, run_underlying hd, Result.andThen_ok]
        cases d <;> first | rfl | cases hag
      have hu' : vs.toArray[off]? = some u := by simpa using hu
      simp only [part, Sem.run_bind, this, Result.andThen_ok, Bool.false_eq_true, if_false, hu']
      rfl
    · cases h
  · cases h
theorem out_field (T : Tie X P C) (S : Sim X w0 A φ st a w) {t f : Nat} {x : Operand} (ho : o.op = .field t x f) (h : opField C t f (ev st.tmps x) K = some r) : Out X P w0 A st o a w Q K r := by
  have hx := S.ev (X := X) x
  unfold opField at h
  split at h
  · rename_i o' ft cs hf ex
    rw [ex] at hx
    obtain ⟨vs, h1, h2⟩ := hx
    obtain ⟨fs, fd, g1, g2, rfl, rfl, ty, g3⟩ := T.fld t f o' ft hf
    obtain ⟨v, u, k1, k2, k3⟩ := run_part T h2 h
    exact ⟨v, [], k1, good_pure S (u := u) (by simp [execOp, ho, h1, Instr.field, run_underlying g1, g2, asAgg, k2]) k3⟩
  · cases h
theorem out_nil (S : Sim X w0 A φ st a w) {x : Operand} (ho : o.op = .nilCheck x) (h : opNil (ev st.tmps x) K = some r) : Out X P w0 A st o a w Q K r := by
  have hx := S.ev (X := X) x
  have fin : ∀ v ad, a.eval x = .pointer (some ad) → K v [] = some r → RA X φ w (okb A φ st.mem w) v (.pointer (some ad)) → Out X P w0 A st o a w Q K r := fun v ad h1 h2 h3 =>
    ⟨v, [], h2, good_pure S (by simp [execOp, ho, h1]) h3⟩
  unfold opNil at h
  split at h
  · rename_i id off ex
    rw [ex] at hx h
    obtain ⟨hd, b, h1, h2, h3⟩ := hx (by intro h; cases h)
    exact fin _ _ h3 h (RA.s ⟨hd, b, h1, h2, rfl⟩)
  · rename_i id u i off ex
    rw [ex] at hx h
    obtain ⟨hd, b, h1, h2, h0, hn, h3⟩ := hx (by intro h; cases h)
    exact fin _ _ h3 h (RA.s ⟨hd, b, h1, h2, h0, hn, rfl⟩)
  · rename_i u y off ex
    rw [ex] at hx h
    obtain ⟨b, p, es, h1, h2, h3, h4⟩ := hx (by intro h; cases h)
    exact fin _ _ h1 h (RA.s ⟨b, p, es, rfl, h2, h3, h4⟩)
  · rename_i u y ex
    rw [ex] at hx
    have hx := (hx (by intro h; cases h)).2
    split at h
    · rename_i y
      obtain ⟨b, p, es, h1, h2, h3, h4⟩ := Rep.ptr.1 hx
      exact fin _ _ (by simpa using h1) h (RA.s ⟨b, p, es, rfl, h2, h3, h4⟩)
    · cases h
  · cases h
theorem Tie.slice (T : Tie X P C) {t : TypeId} {u : Ty} (h : C.ty t = some (.slice u)) : ∃ e i z, P.underlying t = some (.slice e) ∧ C.ty e = some u ∧ P.info? e = some i ∧ i.zero = some z ∧ i.size = sz E u ∧ 0 < sz E u ∧ i.bytes = C.bytes t ∧ 0 < i.bytes ∧ (∀ w ok, Rep X w ok u (dflt E u) z.cells.toList) := by
  obtain ⟨d, h1, h2⟩ := T.desc t _ h
  cases d <;> first | (cases h2; done) | skip
  obtain ⟨h2, i, h3, h4, h5⟩ := h2
  obtain ⟨i', z, g1, g2, g3, g4, g5, _⟩ := T.info _ _ h2
  rw [h3] at g1; cases g1
  exact ⟨_, i, z, h1, h2, h3, g2, g3, g4, h4, h5, g5⟩
theorem out_indexAddr (T : Tie X P C) (S : Sim X w0 A φ st a w) {t : TypeId} {x y : Operand} {rd : Nat → Blk E.toTys} (hrd : ∀ id, rd id = nth .gone st.mem id ∨ rd id = .gone) (ho : o.op = .indexAddr t x y)
    (h : opIndexAddr (C.ty t) rd (ev st.tmps x) (ev st.tmps y) K = some r) : Out X P w0 A st o a w Q K r := by
  have hx := S.ev (X := X) x
  have hy := S.ev (X := X) y
  unfold opIndexAddr at h
  simp only [gd_dec] at h
  split at h
  · rename_i v k i ex ey
    rw [ex] at hx; rw [ey] at hy
    have hy := hy.int
    change Int at i
    have run : ∀ {u b p n cap}, C.ty t = some (.slice u) → a.eval x = .slice (some ⟨b, p, none⟩) n cap → 0 ≤ i → i < (n : Int) → (execOp a.eval o).run P w = .ok (.value (.pointer (some ⟨b, p + i.toNat * sz E u, none⟩))) w := by
      intro u b p n cap hty hv h0 hi
      obtain ⟨e, inf, z, g1, g2, g3, g4, g5, g6, g7⟩ := T.slice hty
      simp [execOp, ho, hv, hy, Instr.indexAt, asIntOf, run_underlying g1, h0, hi, sizeOf, typeInfo, g3, g5, add_off]
    split at h
    · rename_i u id hty
      split at h
      · rename_i u' xs hm
        split at h
        · rename_i hu
          subst hu
          split at h
          · rename_i h0
            have h0 : (0 : Int) ≤ i := h0
            split at h
            · rename_i hi
              have hi : i < ((_ : Nat) : Int) := hi
              obtain ⟨hd, a', n', c', h1, h2, _⟩ := hx (by intro h; cases h)
              obtain ⟨a'', cap, bl, g1, g2, g3⟩ := S.mm id _ (rd_some hrd hm trivial)
              rw [h1] at g1; cases g1
              rcases g3 with ⟨rfl, rfl⟩ | ⟨b', c, e, L, rfl, rfl, k1, k2, k3, k4⟩
              · omega
              have := run hty h2 h0 hi
              rw [Nat.zero_add] at this
              exact ⟨_, _, h, good_pure S this (RA.s ⟨_, _, h1, rfl, h0, by show i.toNat < xs.length; omega, rfl⟩)⟩
            · cases h
          · cases h
        · cases h
      · cases h
    · rename_i u u' xs hty
      split at h
      · rename_i hu
        subst hu
        split at h
        · rename_i h0
          have h0 : (0 : Int) ≤ i := h0
          split at h
          · rename_i hi
            have hi : i < ((_ : Nat) : Int) := hi
            obtain ⟨a', cap, L, h1, h2, h3, h4⟩ := (hx (by intro h; cases h)).2.sliceL
            have hne : xs ≠ [] := by rintro rfl; simp at hi; omega
            obtain ⟨b, p, rfl, hb, hA⟩ := h4 hne
            have hix : xs[i.toNat]? = some (rdA E u' xs i) := by
              unfold rdA
              rw [List.getD_eq_getElem?_getD, List.getElem?_eq_getElem (by omega)]; rfl
            refine ⟨_, _, h, good_pure S (u := .pointer (some ⟨b, p + i.toNat * sz E u', none⟩)) (run hty h1 h0 hi) (RA.s ⟨b, p + i.toNat * sz E u', _, by rw [Nat.add_zero], hb, h3.get hix, hA.sub _ _⟩)⟩
          · cases h
        · cases h
      · cases h
    · rename_i n' u' id hty
      split at h
      · rename_i n u xs hm
        split at h
        · rename_i hu
          obtain ⟨rfl, rfl⟩ := hu
          split at h
          · rename_i h0
            have h0 : (0 : Int) ≤ i := h0
            split at h
            · rename_i hi
              have hi : i < ((_ : Nat) : Int) := hi
              obtain ⟨hd, b, h1, h2, h3⟩ := hx (by intro h; cases h)
              obtain ⟨b', c, e, g1, g2, g3, g4⟩ := S.mm id _ (rd_some hrd hm trivial)
              rw [h1] at g1; cases g1
              cases h2
              obtain ⟨d, hd, hmm⟩ := T.desc t _ hty
              cases d <;> first | (cases hmm; done) | skip
              obtain ⟨rfl, hme⟩ := hmm
              obtain ⟨inf, z, q1, q2, q3, _⟩ := T.info _ _ hme
              refine ⟨_, _, h, good_pure S (u := .pointer (some ⟨b, i.toNat * sz E u, none⟩)) ?_ (RA.s ⟨_, _, h1, rfl, h0, by rw [← g3]; show i.toNat < xs.length; rw [g3]; exact (Int.toNat_lt h0).2 hi, rfl⟩)⟩
              simp [execOp, ho, h3, hy, Instr.indexAt, asIntOf, run_underlying hd, Instr.sureAddr, h0, hi, sizeOf, typeInfo, q1, q3, add_off]
            · cases h
          · cases h
        · cases h
      · cases h
    · cases h
  · cases h
end
end Go.Proofs.Ytlamlgfngpmhgaa.V.B
namespace Go.Proofs.Ytlamlgfngpmhgaa.V.B
open Go.RowKit
set_option linter.unusedVariables false
set_option linter.unusedSimpArgs false
section
variable {E : Env} {X : XRep E} {P : Program} {C : Ctx E} {w0 : W0} {w w' : World} {A : Nat → Prop} {φ : Nat → Option Hd} {st : St E.toTys} {a : Act} {o : Oper} {Q : Exit → Act → World → Prop}
def setφ (φ : Nat → Option Hd) (i : Nat) (h : Hd) : Nat → Option Hd := fun j => if j = i then some h else φ j
theorem setφ_same (i : Nat) (h : Hd) : setφ φ i h i = some h := if_pos rfl
theorem setφ_other {i j : Nat} (h : Hd) (e : j ≠ i) : setφ φ i h j = φ j := if_neg e
theorem setφ_ext {i : Nat} {h : Hd} (hn : φ i = none) : ∀ id k, φ id = some k → setφ φ i h id = some k := fun id k e => by
  rw [setφ_other h (by rintro rfl; rw [hn] at e; cases e)]; exact e
theorem set_get {α : Type} {l : List α} {i j : Nat} {x y : α} (h : (l.set i x)[j]? = some y) : (j = i ∧ y = x) ∨ (j ≠ i ∧ l[j]? = some y) := by
  rw [List.getElem?_set] at h
  split at h
  · rename_i e
    split at h
    · exact .inl ⟨e.symm, (Option.some.inj h).symm⟩
    · cases h
  · rename_i e
    exact .inr ⟨fun k => e k.symm, h⟩
theorem set_other {α : Type} {l : List α} {i j : Nat} {x : α} (h : j ≠ i) : (l.set i x)[j]? = l[j]? := by
  rw [List.getElem?_set, if_neg (fun e => h e.symm)]
theorem own_set_gone {mem : List (Blk E.toTys)} {id b : Nat} (h : own φ (mem.set id .gone) b) : own φ mem b := by
  obtain ⟨j, blk, hd, h1, h2, h3⟩ := h
  rcases set_get h1 with ⟨rfl, rfl⟩ | ⟨_, h1⟩
  · cases h2
  · exact ⟨j, blk, hd, h1, h2, h3⟩
theorem Sim.blk_lt (S : Sim X w0 A φ st a w) {b : Nat} (h : own φ st.mem b) : b < w.heap.size := by
  obtain ⟨j, blk, hd, h1, h2, h3, h4⟩ := h
  have key : ∀ {c e f}, w.heap[b]? = some (.cells c e f) → b < w.heap.size := fun h => (Array.getElem?_eq_some_iff.1 h).1
  have := S.mm j _ h1
  cases blk with
  | free => cases h2
  | gone => cases h2
  | var cs =>
    obtain ⟨b', c, e, g1, g2, g3⟩ := this
    rw [h3] at g1; cases g1; cases h4
    exact key g2
  | arr t xs =>
    obtain ⟨a', cap, bl, g1, g2, g3⟩ := this
    rw [h3] at g1; cases g1
    rcases g3 with ⟨rfl, rfl⟩ | ⟨b', c, e, L, rfl, rfl, k1, k2⟩
    · cases h4
    · cases h4; exact key k1
  | avar n t xs =>
    obtain ⟨b', c, e, g1, g2, g3⟩ := this
    rw [h3] at g1; cases g1; cases h4
    exact key g2
/-- A row is given up. -/
theorem Sim.gone (S : Sim X w0 A φ st a w) (id : Nat) : Sim X w0 A φ ⟨st.tmps, put1 st.mem id .gone⟩ a w := by
  rw [put1_eq]
  have hk : ∀ b, okb A φ st.mem w b → okb A φ (st.mem.set id .gone) w b ∧ w.heap[b]? = w.heap[b]? := fun b h => ⟨⟨h.1, h.2.1, fun k => h.2.2 (own_set_gone k)⟩, rfl⟩
  refine S.go (fun _ _ h => h) hk (fun j blk h => ?_) (fun j hj => S.hi j (by simpa using hj)) (fun i j p q h k b hi hj lp lq => ?_) (fun b h => S.new b (own_set_gone h)) S.bel
  · rcases set_get h with ⟨rfl, rfl⟩ | ⟨_, h⟩
    · trivial
    · exact RM.mono (fun _ _ h => h) hk rfl (fun _ _ _ _ _ => rfl) (S.mm j _ h)
  · rcases set_get hi with ⟨rfl, rfl⟩ | ⟨_, hi⟩
    · cases lp
    rcases set_get hj with ⟨rfl, rfl⟩ | ⟨_, hj⟩
    · cases lq
    exact S.sep i j p q h k b hi hj lp lq
theorem Sim.φfree (S : Sim X w0 A φ st a w) {slot : Nat} (hf : st.mem[slot]? = some .free) : φ slot = none := S.mm slot _ hf
/-- A new row. -/
theorem Sim.fresh (S : Sim X w0 A φ st a w) {slot : Nat} (hf : st.mem[slot]? = some .free) {c : Array Value} {e : TypeId} (hw : w'.heap = w.heap.push (.cells c e (0, 0))) (hb : Below w.heap.size w w') {h : Hd}
    (hh : h.blk = some w.heap.size) {blk : Blk E.toTys}
    (hm : ∀ ok', (∀ b, okb A φ st.mem w b → ok' b ∧ w'.heap[b]? = w.heap[b]?) → RM X (setφ φ slot h) w' ok' slot blk) : Sim X w0 A (setφ φ slot h) ⟨st.tmps, put1 st.mem slot blk⟩ a w' := by
  rw [put1_eq]
  have hn := S.φfree hf
  have hold : ∀ b, b < w.heap.size → w'.heap[b]? = w.heap[b]? := fun b hlt => by rw [hw, Array.getElem?_push_lt hlt, Array.getElem?_eq_getElem hlt]
  have hown : ∀ b, own (setφ φ slot h) (st.mem.set slot blk) b → own φ st.mem b ∨ b = w.heap.size := by
    rintro b ⟨j, m, k, h1, h2, h3, h4⟩
    rcases set_get h1 with ⟨rfl, rfl⟩ | ⟨ne, h1⟩
    · rw [setφ_same] at h3; cases h3; rw [hh] at h4; cases h4; exact .inr rfl
    · rw [setφ_other h ne] at h3; exact .inl ⟨j, m, k, h1, h2, h3, h4⟩
  have hsz : w'.heap.size = w.heap.size + 1 := by rw [hw, Array.size_push]
  have hk : ∀ b, okb A φ st.mem w b → okb A (setφ φ slot h) (st.mem.set slot blk) w' b ∧ w'.heap[b]? = w.heap[b]? := fun b hok =>
    ⟨⟨by have := hok.1; omega, hok.2.1, fun ho => by rcases hown b ho with g | g; exact hok.2.2 g; have := hok.1; omega⟩, hold b hok.1⟩
  refine S.go (setφ_ext hn) hk (fun j m hj => ?_) (fun j hj => ?_) (fun i j p q hi hj b h1 h2 l1 l2 e1 e2 b1 b2 => ?_) (fun b ho => ?_) (S.bel.trans hb S.bel.size)
  · rcases set_get hj with ⟨rfl, rfl⟩ | ⟨ne, hj⟩
    · exact hm _ hk
    · exact RM.mono (setφ_ext hn) hk (setφ_other h ne) (fun k b lm e1 e2 => hold b (S.blk_lt ⟨j, m, k, hj, lm, e1, e2⟩)) (S.mm j _ hj)
  · have hj' : st.mem.length ≤ j := by simpa using hj
    have : slot < st.mem.length := (List.getElem?_eq_some_iff.1 hf).1
    rw [setφ_other h (by omega)]
    exact S.hi j hj'
  · rcases set_get h1 with ⟨rfl, rfl⟩ | ⟨n1, g1⟩
    · rcases set_get h2 with ⟨rfl, rfl⟩ | ⟨n2, g2⟩
      · rfl
      · rw [setφ_same] at e1; cases e1
        rw [setφ_other h n2] at e2
        rw [hh] at b1; cases b1
        have := S.blk_lt ⟨j, q, hj, g2, l2, e2, b2⟩
        omega
    · rcases set_get h2 with ⟨rfl, rfl⟩ | ⟨n2, g2⟩
      · rw [setφ_same] at e2; cases e2
        rw [setφ_other h n1] at e1
        rw [hh] at b2; cases b2
        have := S.blk_lt ⟨i, p, hi, g1, l1, e1, b1⟩
        omega
      · rw [setφ_other h n1] at e1
        rw [setφ_other h n2] at e2
        exact S.sep i j p q hi hj b g1 g2 l1 l2 e1 e2 b1 b2
  · rcases hown b ho with g | g
    · exact S.new b g
    · have := S.bel.size; exact .inl (by omega)
/-- A new row that has no memory. -/
theorem Sim.bare (S : Sim X w0 A φ st a w) {slot : Nat} (hf : st.mem[slot]? = some .free) {h : Hd} (hh : h.blk = none) {blk : Blk E.toTys}
    (hm : ∀ ok', (∀ b, okb A φ st.mem w b → ok' b) → RM X (setφ φ slot h) w ok' slot blk) : Sim X w0 A (setφ φ slot h) ⟨st.tmps, put1 st.mem slot blk⟩ a w := by
  rw [put1_eq]
  have hn := S.φfree hf
  have hown : ∀ b, own (setφ φ slot h) (st.mem.set slot blk) b → own φ st.mem b := by
    rintro b ⟨j, m, k, h1, h2, h3, h4⟩
    rcases set_get h1 with ⟨rfl, rfl⟩ | ⟨ne, h1⟩
    · rw [setφ_same] at h3; cases h3; rw [hh] at h4; cases h4
    · rw [setφ_other h ne] at h3; exact ⟨j, m, k, h1, h2, h3, h4⟩
  have hk : ∀ b, okb A φ st.mem w b → okb A (setφ φ slot h) (st.mem.set slot blk) w b ∧ w.heap[b]? = w.heap[b]? := fun b hok => ⟨⟨hok.1, hok.2.1, fun ho => hok.2.2 (hown b ho)⟩, rfl⟩
  refine S.go (setφ_ext hn) hk (fun j m hj => ?_) (fun j hj => ?_) (fun i j p q hi hj b h1 h2 l1 l2 e1 e2 b1 b2 => ?_) (fun b ho => S.new b (hown b ho)) S.bel
  · rcases set_get hj with ⟨rfl, rfl⟩ | ⟨ne, hj⟩
    · exact hm _ fun b hb => (hk b hb).1
    · exact RM.mono (setφ_ext hn) hk (setφ_other h ne) (fun _ _ _ _ _ => rfl) (S.mm j _ hj)
  · have hj' : st.mem.length ≤ j := by simpa using hj
    have : slot < st.mem.length := (List.getElem?_eq_some_iff.1 hf).1
    rw [setφ_other h (by omega)]
    exact S.hi j hj'
  · rcases set_get h1 with ⟨rfl, rfl⟩ | ⟨n1, h1⟩
    · rw [setφ_same] at e1; cases e1; rw [hh] at b1; cases b1
    · rcases set_get h2 with ⟨rfl, rfl⟩ | ⟨n2, h2⟩
      · rw [setφ_same] at e2; cases e2; rw [hh] at b2; cases b2
      · rw [setφ_other h n1] at e1
        rw [setφ_other h n2] at e2
        exact S.sep i j p q hi hj b h1 h2 l1 l2 e1 e2 b1 b2
theorem Sim.wroteBel (S : Sim X w0 A φ st a w) {b : Nat} (hob : own φ st.mem b) (hw : ∀ k, k ≠ b → w'.heap[k]? = w.heap[k]?) (hsz : w'.heap.size = w.heap.size) (hbl : Below b w w') : BelI w0.I w0.w.heap.size w0.w w' :=
  S.bel.then (I := w0.I) (J := fun k => k = b) (B' := w0.w.heap.size) ⟨hbl.os, hbl.tape, hbl.output, hbl.size, fun k _ hk => hw k hk⟩ fun i hi hI => ⟨hi, fun e => by
    rcases S.new b hob with h | h
    · omega
    · exact hI (e ▸ h)⟩
/-- A row that is written. -/
theorem Sim.wrote (S : Sim X w0 A φ st a w) {id : Nat} {m0 m1 : Blk E.toTys} {h : Hd} {b : Nat} (h0 : st.mem[id]? = some m0) (l0 : live m0) (hφ : φ id = some h) (hb : h.blk = some b)
    (hw : ∀ k, k ≠ b → w'.heap[k]? = w.heap[k]?) (hsz : w'.heap.size = w.heap.size) (hbl : Below b w w')
    (hm : ∀ ok', (∀ b, okb A φ st.mem w b → ok' b ∧ w'.heap[b]? = w.heap[b]?) → RM X φ w' ok' id m1) : Sim X w0 A φ ⟨st.tmps, put1 st.mem id m1⟩ a w' := by
  rw [put1_eq]
  have hob : own φ st.mem b := ⟨id, m0, h, h0, l0, hφ, hb⟩
  have hown : ∀ k, own φ (st.mem.set id m1) k → own φ st.mem k := by
    rintro k ⟨j, m, g, h1, h2, h3, h4⟩
    rcases set_get h1 with ⟨rfl, rfl⟩ | ⟨ne, h1⟩
    · rw [hφ] at h3; cases h3; rw [hb] at h4; cases h4; exact hob
    · exact ⟨j, m, g, h1, h2, h3, h4⟩
  have hk : ∀ k, okb A φ st.mem w k → okb A φ (st.mem.set id m1) w' k ∧ w'.heap[k]? = w.heap[k]? := fun k hok =>
    ⟨⟨by have := hok.1; omega, hok.2.1, fun ho => hok.2.2 (hown k ho)⟩, hw k (by rintro rfl; exact hok.2.2 hob)⟩
  refine S.go (fun _ _ h => h) hk (fun j m hj => ?_) (fun j hj => S.hi j (by simpa using hj)) (fun i j p q hi hj k h1 h2 l1 l2 e1 e2 b1 b2 => ?_) (fun k ho => S.new k (hown k ho))
    (S.wroteBel hob hw hsz hbl)
  · rcases set_get hj with ⟨rfl, rfl⟩ | ⟨ne, hj⟩
    · exact hm _ hk
    · exact RM.mono (fun _ _ h => h) hk rfl (fun g k lm e1 e2 => hw k (by
        rintro rfl
        exact ne (S.sep j id m m0 g h k hj h0 lm l0 e1 hφ e2 hb))) (S.mm j _ hj)
  · have conv : ∀ {i : Nat} {p : Blk E.toTys} {hi : Hd}, (st.mem.set id m1)[i]? = some p → live p → φ i = some hi → hi.blk = some k → ∃ p', st.mem[i]? = some p' ∧ live p' := by
      intro i p hi h1 l1 e1 b1
      rcases set_get h1 with ⟨rfl, rfl⟩ | ⟨n1, h1⟩
      · exact ⟨m0, h0, l0⟩
      · exact ⟨p, h1, l1⟩
    obtain ⟨p', g1, g2⟩ := conv h1 l1 e1 b1
    obtain ⟨q', g3, g4⟩ := conv h2 l2 e2 b2
    exact S.sep i j p' q' hi hj k g1 g3 g2 g4 e1 e2 b1 b2
/-- A row that goes on under another number, written. -/
theorem Sim.moved (S : Sim X w0 A φ st a w) {id slot : Nat} {m0 m1 : Blk E.toTys} {h h' : Hd} {b : Nat} (hf : st.mem[slot]? = some .free) (h0 : st.mem[id]? = some m0) (l0 : live m0) (hφ : φ id = some h) (hb : h.blk = some b) (hb' : h'.blk = some b)
    (hw : ∀ k, k ≠ b → w'.heap[k]? = w.heap[k]?) (hsz : w'.heap.size = w.heap.size) (hbl : Below b w w')
    (hm : ∀ ok', (∀ b, okb A φ st.mem w b → ok' b ∧ w'.heap[b]? = w.heap[b]?) → RM X (setφ φ slot h') w' ok' slot m1) : Sim X w0 A (setφ φ slot h') ⟨st.tmps, put1 (put1 st.mem slot m1) id .gone⟩ a w' := by
  rw [put1_eq, put1_eq]
  have hne : id ≠ slot := by rintro rfl; rw [hf] at h0; cases h0; cases l0
  have hn := S.φfree hf
  have hob : own φ st.mem b := ⟨id, m0, h, h0, l0, hφ, hb⟩
  have hget : ∀ {j : Nat} {m : Blk E.toTys}, ((st.mem.set slot m1).set id .gone)[j]? = some m → live m → (j = slot ∧ m = m1) ∨ (j ≠ slot ∧ j ≠ id ∧ st.mem[j]? = some m) := by
    intro j m hj lm
    rcases set_get hj with ⟨rfl, rfl⟩ | ⟨n1, hj⟩
    · cases lm
    · rcases set_get hj with ⟨rfl, rfl⟩ | ⟨n2, hj⟩
      · exact .inl ⟨rfl, rfl⟩
      · exact .inr ⟨n2, n1, hj⟩
  have hown : ∀ k, own (setφ φ slot h') ((st.mem.set slot m1).set id .gone) k → own φ st.mem k := by
    rintro k ⟨j, m, g, h1, h2, h3, h4⟩
    rcases hget h1 h2 with ⟨rfl, rfl⟩ | ⟨n1, n2, h1⟩
    · rw [setφ_same] at h3; cases h3; rw [hb'] at h4; cases h4; exact hob
    · rw [setφ_other h' n1] at h3; exact ⟨j, m, g, h1, h2, h3, h4⟩
  have hk : ∀ k, okb A φ st.mem w k → okb A (setφ φ slot h') ((st.mem.set slot m1).set id .gone) w' k ∧ w'.heap[k]? = w.heap[k]? := fun k hok =>
    ⟨⟨by have := hok.1; omega, hok.2.1, fun ho => hok.2.2 (hown k ho)⟩, hw k (by rintro rfl; exact hok.2.2 hob)⟩
  refine S.go (setφ_ext hn) hk (fun j m hj => ?_) (fun j hj => ?_) (fun i j p q hi hj k h1 h2 l1 l2 e1 e2 b1 b2 => ?_) (fun k ho => S.new k (hown k ho)) (S.wroteBel hob hw hsz hbl)
  · rcases set_get hj with ⟨rfl, rfl⟩ | ⟨n1, hj⟩
    · trivial
    rcases set_get hj with ⟨rfl, rfl⟩ | ⟨n2, hj⟩
    · exact hm _ hk
    · exact RM.mono (setφ_ext hn) hk (setφ_other h' n2) (fun g k lm e1 e2 => hw k (by
        rintro rfl
        exact n1 (S.sep j id m m0 g h k hj h0 lm l0 e1 hφ e2 hb))) (S.mm j _ hj)
  · have hj' : st.mem.length ≤ j := by simpa using hj
    have : slot < st.mem.length := (List.getElem?_eq_some_iff.1 hf).1
    rw [setφ_other h' (by omega)]
    exact S.hi j hj'
  · rcases hget h1 l1 with ⟨rfl, rfl⟩ | ⟨n1, n2, g1⟩
    · rcases hget h2 l2 with ⟨rfl, rfl⟩ | ⟨n3, n4, g2⟩
      · rfl
      · rw [setφ_same] at e1; cases e1
        rw [setφ_other h' n3] at e2
        rw [hb'] at b1; cases b1
        exact absurd (S.sep j id q m0 hj h b g2 h0 l2 l0 e2 hφ b2 hb) n4
    · rcases hget h2 l2 with ⟨rfl, rfl⟩ | ⟨n3, n4, g2⟩
      · rw [setφ_same] at e2; cases e2
        rw [setφ_other h' n1] at e1
        rw [hb'] at b2; cases b2
        exact absurd (S.sep i id p m0 hi h b g1 h0 l1 l0 e1 hφ b1 hb) n2
      · rw [setφ_other h' n1] at e1
        rw [setφ_other h' n3] at e2
        exact S.sep i j p q hi hj k g1 g2 l1 l2 e1 e2 b1 b2
theorem frees_one {mem : List (Blk E.toTys)} {s n : Nat} (h : frees mem s (n + 1) = true) : mem[s]? = some .free := by
  simp only [frees, Bool.and_eq_true] at h
  have h := h.1
  rw [nth_eq] at h
  cases hm : mem[s]? with
  | none => simp [List.getD, hm, isFree] at h
  | some b =>
    simp [List.getD, hm] at h
    cases b <;> first | rfl | cases h
theorem good_mem {φ' : Nat → Option Hd} {v : AV E.toTys} {us : List (Nat × Blk E.toTys)} {u : Value} (hr : (execOp a.eval o).run P w = .ok (.value u) w') (S : Sim X w0 A φ' ⟨st.tmps, app st.mem us⟩ a w')
    (h : RA X φ' w' (okb A φ' (app st.mem us) w') v u) : Good X P w0 A st o a w Q v us := by
  unfold Good Oper.wp
  rw [hr]
  exact ⟨φ', S.put o.dst h⟩
theorem good_skip {φ' : Nat → Option Hd} {us : List (Nat × Blk E.toTys)} (hr : (execOp a.eval o).run P w = .ok .skip w') (S : Sim X w0 A φ' ⟨st.tmps, app st.mem us⟩ a w') : Good X P w0 A st o a w Q (.c (.s .dead)) us := by
  unfold Good Oper.wp
  rw [hr]
  exact ⟨φ', S.put o.dst (fun h => absurd rfl h)⟩
end
end Go.Proofs.Ytlamlgfngpmhgaa.V.B
namespace Go.Proofs.Ytlamlgfngpmhgaa.V.B
open Go.RowKit
set_option linter.unusedVariables false
set_option linter.unusedSimpArgs false
section
variable {E : Env} {X : XRep E} {P : Program} {C : Ctx E} {w0 : W0} {w w' : World} {A : Nat → Prop} {φ : Nat → Option Hd} {st : St E.toTys} {a : Act} {o : Oper} {R : Type} {r : R} {Q : Exit → Act → World → Prop} {K : KT E R}
theorem below_alloc (w : World) (ob : Obj) : Below w.heap.size w (w.alloc ob) := (Below.refl _ _).alloc (Nat.le_refl _) ob
/-- A new row of cells, told by a list. -/
theorem Sim.newVar (S : Sim X w0 A φ st a w) {slot : Nat} (hf : st.mem[slot]? = some .free) {cs : List (SV E.toTys)} {c : Array Value} (e : TypeId) (h : All2 (RS X φ w (okb A φ st.mem w)) cs c.toList) :
    ∃ φ', Sim X w0 A φ' ⟨st.tmps, put1 st.mem slot (.var cs)⟩ a (w.alloc (.cells c e)) ∧ φ' slot = some ⟨.pointer (some ⟨w.heap.size, 0, none⟩), some w.heap.size, 0⟩ :=
  ⟨_, S.fresh hf (e := e) rfl (below_alloc _ _) (h := ⟨.pointer (some ⟨w.heap.size, 0, none⟩), some w.heap.size, 0⟩) rfl fun ok' hk =>
    ⟨_, c, e, setφ_same _ _, Array.getElem?_push_size, h.mono fun _ _ => RS.mono (setφ_ext (S.φfree hf)) hk⟩, setφ_same _ _⟩
theorem Sim.newArr (S : Sim X w0 A φ st a w) {slot : Nat} (hf : st.mem[slot]? = some .free) {n : Nat} {u : Ty} {xs : List (den E.toTys u)} {c : Array Value} (e : TypeId) (hn : xs.length = n) (h : Lay X w (okb A φ st.mem w) u xs c.toList) :
    ∃ φ', Sim X w0 A φ' ⟨st.tmps, put1 st.mem slot (.avar n u xs)⟩ a (w.alloc (.cells c e)) ∧ φ' slot = some ⟨.pointer (some ⟨w.heap.size, 0, none⟩), some w.heap.size, n⟩ :=
  ⟨_, S.fresh hf (e := e) rfl (below_alloc _ _) (h := ⟨.pointer (some ⟨w.heap.size, 0, none⟩), some w.heap.size, n⟩) rfl fun ok' hk =>
    ⟨_, c, e, setφ_same _ _, Array.getElem?_push_size, hn, h.mono hk⟩, setφ_same _ _⟩
/-- A new row of a slice; the world may have been drawn from. -/
theorem Sim.newRow (S : Sim X w0 A φ st a w) {slot : Nat} (hf : st.mem[slot]? = some .free) {u : Ty} {xs : List (den E.toTys u)} {L : List Value} {c : Array Value} {e : TypeId} {cap : Nat} (hw : w'.heap = w.heap.push (.cells c e (0, 0)))
    (hb : Below w.heap.size w w') (hn : xs.length ≤ cap) (hc : c.size = cap * B.sz E u) (h : Lay X w (okb A φ st.mem w) u xs L) (hL : c.toList.take L.length = L) :
    ∃ φ', Sim X w0 A φ' ⟨st.tmps, put1 st.mem slot (.arr u xs)⟩ a w' ∧ φ' slot = some ⟨.slice (some ⟨w.heap.size, 0, none⟩) xs.length cap, some w.heap.size, xs.length⟩ :=
  ⟨_, S.fresh hf (e := e) hw hb (h := ⟨.slice (some ⟨w.heap.size, 0, none⟩) xs.length cap, some w.heap.size, xs.length⟩) rfl fun ok' hk =>
    ⟨_, cap, _, setφ_same _ _, hn, .inr ⟨_, c, e, L, rfl, rfl, by rw [hw]; exact Array.getElem?_push_size, Nat.le_of_eq hc.symm, h.mono hk, hL⟩⟩, setφ_same _ _⟩
theorem RA.ofPtr {φ : Nat → Option Hd} {ok : Nat → Prop} {slot b n : Nat} {hd : Value} (h : φ slot = some ⟨hd, some b, n⟩) : RA X φ w ok (.c (.s (.ptr slot 0))) (.pointer (some ⟨b, 0, none⟩)) := fun _ => ⟨_, b, h, rfl, rfl⟩
theorem RA.ofRef {φ : Nat → Option Hd} {ok : Nat → Prop} {slot n c : Nat} {p : Option Addr} {b : Option Nat} {m : Nat} (h : φ slot = some ⟨.slice p n c, b, m⟩) : RA X φ w ok (.c (.s (.ref slot))) (.slice p n c) := fun _ => ⟨_, p, n, c, h, rfl, rfl⟩
theorem out_alloc (T : Tie X P C) (S : Sim X w0 A φ st a w) {t slot : Nat} (ho : o.op = .alloc t) (hf : st.mem[slot]? = some .free) (h : opAlloc C t slot K = some r) : Out X P w0 A st o a w Q K r := by
  unfold opAlloc at h
  have run : ∀ {i z}, P.info? t = some i → i.zero = some z → (execOp a.eval o).run P w = .ok (.value (.pointer (some ⟨w.heap.size, 0, none⟩))) (w.alloc (.cells z.cells t)) := by
    intro i z hi hz
    simp [execOp, ho, Instr.alloc, zeroValue, typeInfo, hi, hz, Go.newVar, Go.newRow]
  split at h
  · rename_i n u hty
    obtain ⟨i, z, hi, hz, hsz, hpos, hd, _⟩ := T.info t _ hty
    obtain ⟨h1, h2⟩ := Rep.arrL.1 (hd w (okb A φ st.mem w))
    obtain ⟨φ', S', hφ⟩ := S.newArr hf t h1 h2
    exact ⟨_, _, h, good_mem (run hi hz) S' (RA.ofPtr hφ)⟩
  · rename_i ty hna hty
    obtain ⟨i, z, hi, hz, hsz, hpos, hd, hzc⟩ := T.info t _ hty
    split at h
    · rename_i cs hcs
      obtain ⟨φ', S', hφ⟩ := S.newVar hf t (hzc cs hcs φ w _)
      exact ⟨_, _, h, good_mem (run hi hz) S' (RA.ofPtr hφ)⟩
    · cases h
  · cases h
theorem out_box (S : Sim X w0 A φ st a w) {t slot : Nat} {x : Operand} (ho : o.op = .box t x) (hf : st.mem[slot]? = some .free) (h : opBox (ev st.tmps x) slot K = some r) : Out X P w0 A st o a w Q K r := by
  have hx := S.ev (X := X) x
  unfold opBox at h
  have run : (execOp a.eval o).run P w = .ok (.value (.pointer (some ⟨w.heap.size, 0, none⟩))) (w.alloc (.cells (a.eval x).cells t)) := by
    simp [execOp, ho, Instr.box, Go.newVar, Go.newRow]
  split at h
  · cases h
  · rename_i v hd ex
    rw [ex] at hx
    obtain ⟨φ', S', hφ⟩ := S.newVar hf t (RC.cells (fun e => hd (by rw [e])) hx)
    exact ⟨_, _, h, good_mem run S' (RA.ofPtr hφ)⟩
  · rename_i n u xs ex
    rw [ex] at hx
    obtain ⟨cs, hv, hx⟩ := hx
    obtain ⟨h1, h2⟩ := Rep.arrL.1 hx
    rw [hv] at run
    obtain ⟨φ', S', hφ⟩ := S.newArr (c := cs.toArray) hf t h1 (by simpa using h2)
    exact ⟨_, _, h, good_mem run S' (RA.ofPtr hφ)⟩
  · cases h
theorem foldl_set (off : Nat) : ∀ (vs : List Value) (i0 : Nat) (cs : Array Value), off + i0 + vs.length ≤ cs.size →
    ((vs.zipIdx i0).foldl (fun cs (p : Value × Nat) => cs.setIfInBounds (off + p.2) p.1) cs).toList = cs.toList.take (off + i0) ++ (vs ++ cs.toList.drop (off + i0 + vs.length))
  | [], i0, cs, _ => by simp
  | v :: vs, i0, cs, h => by
    simp only [List.length_cons] at h
    rw [List.zipIdx_cons, List.foldl_cons, foldl_set off vs (i0 + 1) _ (by simp; omega)]
    simp only [Array.toList_setIfInBounds, List.length_cons]
    have h1 : off + i0 < cs.toList.length := by simp; omega
    rw [← Nat.add_assoc, List.take_set, List.drop_set_of_lt (by omega), List.take_succ_eq_append_getElem h1]
    have hl : (cs.toList.take (off + i0)).length = off + i0 := by rw [List.length_take]; omega
    rw [List.set_append_right _ _ (by omega), hl, Nat.sub_self]
    simp [Nat.add_comm 1, Nat.add_assoc]
theorem fill_step {place : Nat → Option (Nat × Nat)} {cells : Array Value} {i off size : Nat} {v : Value} {rest : List (Nat × Value)} (hp : place i = some (off, size)) (hs : v.cells.size = size) (hl : off + v.cells.size ≤ cells.size) :
    ∃ cells' : Array Value, Instr.fill place cells ((i, v) :: rest) = Instr.fill place cells' rest ∧ cells'.toList = cells.toList.take off ++ (v.cells.toList ++ cells.toList.drop (off + v.cells.size)) := by
  refine ⟨v.cells.zipIdx.foldl (fun cs (p : Value × Nat) => cs.setIfInBounds (off + p.2) p.1) cells, ?_, ?_⟩
  · rw [Instr.fill, hp]
    have : ¬ (cells.size < off + v.cells.size) := by omega
    simp [hs, hs ▸ this]
  · rw [← Array.foldl_toList, Array.toList_zipIdx]
    have := foldl_set off v.cells.toList 0 cells (by simpa using hl)
    simpa using this
theorem buildCells_ok (T : Tie X P C) (S : Sim X w0 A φ st a w) {t : Nat} {fs : Array Field} {places : Array (Nat × Nat)} (ht : P.underlying t = some (.struct fs)) (hpl : ∀ (i : Nat) (f : Field), fs[i]? = some f → ∀ inf, P.info? f.type = some inf → places[i]? = some (f.offset, inf.size)) :
    ∀ (parts : List (Nat × Operand)) (cs cs' : List (SV E.toTys)) (cells : Array Value), buildCells C t (parts.map fun p => (p.1, ev st.tmps p.2)) cs = some cs' → All2 (RS X φ w (okb A φ st.mem w)) cs cells.toList →
      ∃ cells' : Array Value, Instr.fill (places[·]?) cells (parts.map fun p => (p.1, a.eval p.2)) = some cells' ∧ All2 (RS X φ w (okb A φ st.mem w)) cs' cells'.toList
  | [], cs, cs', cells, h, hc => by
    simp only [List.map_nil, buildCells, Option.some.injEq] at h
    subst h
    exact ⟨cells, rfl, hc⟩
  | (i, x) :: parts, cs, cs', cells, h, hc => by
    have hx := S.ev (X := X) x
    simp only [List.map_cons] at h ⊢
    unfold buildCells at h
    split at h
    · rename_i e; cases e
    · cases h
    · rename_i cs0 i' v r' hnd e
      simp only [List.cons.injEq, Prod.mk.injEq] at e
      obtain ⟨⟨rfl, ex⟩, rfl⟩ := e
      split at h
      · rename_i o' ft hf
        split at h
        · rename_i ty hty
          split at h
          · rename_i hb
            split at h
            · rename_i cs1 hsp
              obtain ⟨fs', fd, g1, g2, rfl, rfl, _⟩ := T.fld t i o' ft hf
              rw [ht] at g1; cases g1
              obtain ⟨inf, z, hi, hz, hsz, hpos, _⟩ := T.info _ _ hty
              rw [ex] at hx
              have hcells := RC.cells (fun e => hnd e) hx
              have hbl : (B.cells v).length = sz E ty := by rw [← len_eq]; exact Nat.eq_of_beq_eq_true hb
              obtain ⟨hl, rfl⟩ := splice_some hsp
              have l1 := hcells.length
              have l2 := hc.length
              rw [hbl, Array.length_toList] at l1
              obtain ⟨cells1, e1, e2⟩ := fill_step (place := (places[·]?)) (cells := cells) (rest := parts.map fun p => (p.1, a.eval p.2)) (hpl i _ g2 _ hi) (v := a.eval x) (by omega) (by
                have l3 : cells.toList.length = cells.size := Array.length_toList
                omega)
              rw [e1]
              refine buildCells_ok T S ht hpl parts _ cs' cells1 h ?_
              rw [e2, ← Array.length_toList, ← hcells.length]
              exact (hc.take _).app (hcells.app (hc.drop _))
            · cases h
          · cases h
        · cases h
      · cases h
    · cases h
theorem mapM_places {fs : List Field} {places : List (Nat × Nat)} (h : All2 (fun (f : Field) (p : Nat × Nat) => ∃ inf, P.info? f.type = some inf ∧ p = (f.offset, inf.size)) fs places) (w : World) :
    (fs.mapM fun f => do pure (f.offset, ← sizeOf f.type) : Sem (List (Nat × Nat))).run P w = .ok places w := by
  induction h with
  | nil => rfl
  | cons h1 h2 ih =>
    obtain ⟨inf, hi, rfl⟩ := h1
    rename_i f l m
    have hs : (sizeOf f.type).run P w = .ok inf.size w := by simp only [sizeOf, typeInfo, Sem.run_bind, run_program, Result.andThen_ok, hi, Sem.run_pure]
    rw [List.mapM_cons]
    simp only [Sem.run_bind, hs, Result.andThen_ok, Sem.run_pure, ih]
theorem run_build (T : Tie X P C) (S : Sim X w0 A φ st a w) {t n : Nat} {parts : Array (Nat × Operand)} {cs cs' : List (SV E.toTys)} (hty : C.ty t = some (.st n)) (hz : zcells E (.st n) = some cs)
    (h : buildCells C t (parts.toList.map fun p => (p.1, ev st.tmps p.2)) cs = some cs') :
    ∃ cells' : Array Value, (Instr.build t (parts.map fun (i, x) => (i, a.eval x))).run P w = .ok (.agg cells') w ∧ All2 (RS X φ w (okb A φ st.mem w)) cs' cells'.toList := by
  obtain ⟨inf, z, hi, hzz, hsz, hpos, hd, hzc⟩ := T.info t _ hty
  obtain ⟨d, hd1, hd2⟩ := T.desc t _ hty
  cases d <;> first | (cases hd2; done) | skip
  rename_i fs
  have hex : ∀ l : List Field, (∀ f ∈ l, ∃ inf, P.info? f.type = some inf) → ∃ places, All2 (fun (f : Field) (p : Nat × Nat) => ∃ inf, P.info? f.type = some inf ∧ p = (f.offset, inf.size)) l places := by
    intro l hl
    induction l with
    | nil => exact ⟨[], .nil⟩
    | cons f l ih =>
      obtain ⟨inf, hi⟩ := hl f (by simp)
      obtain ⟨pl, hp⟩ := ih fun g hg => hl g (by simp [hg])
      exact ⟨_, .cons ⟨inf, hi, rfl⟩ hp⟩
  obtain ⟨places, hpl⟩ := hex fs.toList fun f hf => T.part t _ hty fs hd1 f (by simpa using hf)
  obtain ⟨cells', h1, h2⟩ := buildCells_ok T S (places := places.toArray) hd1 (fun i f hf inf hi => by
    have hf' : fs.toList[i]? = some f := by simpa using hf
    obtain ⟨p, hp, inf', hi', e⟩ := hpl.get hf'
    rw [hi] at hi'; cases hi'
    rw [← e]; simpa using hp) parts.toList cs cs' z.cells h (hzc cs hz φ w _)
  refine ⟨cells', ?_, h2⟩
  have hm := mapM_places hpl w
  have hma : (fs.mapM fun f => do pure (f.offset, ← sizeOf f.type) : Sem (Array (Nat × Nat))).run P w = .ok places.toArray w := by
    rw [Array.mapM_eq_mapM_toList, Sem.run_map, hm]
    rfl
  have hpe : (parts.map fun (x : Nat × Operand) => (x.1, a.eval x.2)).toList = parts.toList.map fun p => (p.1, a.eval p.2) := by simp
  unfold Instr.build
  simp only [Sem.run_bind, zeroValue, typeInfo, run_program, Result.andThen_ok, hi, Sem.run_pure, hzz, run_underlying hd1, hma]
  have hpe' : (Array.map (fun x => match x with | (i, x) => (i, a.eval x)) parts).toList = parts.toList.map fun p => (p.1, a.eval p.2) := by simp
  rw [hpe', h1]
  rfl
theorem Lay.put {w : World} {ok : Nat → Prop} {u : Ty} {xs : List (den E.toTys u)} {L es : List Value} {i : Nat} {x : den E.toTys u} (h : Lay X w ok u xs L) (hi : i < xs.length) (hx : Rep X w ok u x es) :
    Lay X w ok u (put1 xs i x) (L.take (i * sz E u) ++ (es ++ L.drop (i * sz E u + es.length))) := by
  rw [put1_eq, hx.length]
  exact h.set hi hx
/-- A value of a type, read out of cells. -/
theorem expS0_ok {mem : List (Blk E.toTys)} {rd : Nat → Blk E.toTys} (hm : ∀ (id : Nat) blk, mem[id]? = some blk → RM X φ w (okb A φ mem w) id blk) (hrd : ∀ id, rd id = nth .gone mem id ∨ rd id = .gone) {ok' : Nat → Prop}
    (hok : ∀ b, okb A φ mem w b → ok' b) {t : Ty} {s : SV E.toTys} {x : den E.toTys t} {v : Value} (hown : ∀ id, s = .ref id → ∀ h b, φ id = some h → h.blk = some b → ok' b) (h : expS0 rd t s = some x) (hs : RS X φ w (okb A φ mem w) s v) :
    Rep X w ok' t x [v] := by
  have mono : ∀ {t x cs}, Rep X w (okb A φ mem w) t x cs → Rep X w ok' t x cs := fun h => h.mono fun b hb => ⟨hok b hb, rfl⟩
  unfold expS0 at h
  split at h
  · obtain ⟨e, he⟩ := conv_some h
    subst e
    subst he
    exact mono hs.2
  · split at h
    · exact mono (Rep.bool.2 (by rw [hs.bool h]))
    · cases h
  · split at h
    · cases h
      obtain ⟨a', rfl⟩ := hs
      exact Rep.slice.2 ⟨a', 0, rfl, Nat.le_refl _, fun h => absurd rfl h⟩
    · cases h
      obtain ⟨a', rfl⟩ := hs
      exact Rep.em.2 ⟨a', rfl⟩
    · cases h
  · rename_i id
    split at h
    · rename_i u
      split at h
      · rename_i u' xs hrdm
        obtain ⟨e, he⟩ := conv_some h
        cases e
        have he : xs = x := he
        subst he
        obtain ⟨hd, a', n, c, h1, h2, h3⟩ := hs
        obtain ⟨a'', cap, bl, g1, g2, g3⟩ := hm id _ (rd_some hrd hrdm trivial)
        rw [h1] at g1; cases g1
        rw [h2]
        rcases g3 with ⟨rfl, rfl⟩ | ⟨b, c, e, L, rfl, rfl, k1, k2, k3, k4⟩
        · have : xs = [] := List.eq_nil_of_length_eq_zero (by omega)
          subst this
          exact Rep.slice.2 ⟨_, 0, rfl, g2, fun h => absurd rfl h⟩
        · refine Rep.sliceM g2 (k3.mono fun b hb => ⟨hok b hb, rfl⟩) fun _ => ⟨b, 0, rfl, hown id rfl _ b h1 rfl, ?_⟩
          rw [← k4]; exact (At.row k1).take
      · cases h
    · cases h
  · rename_i u y off
    split at h
    · split at h
      · split at h
        · rename_i y' hc
          obtain ⟨e, he⟩ := conv_some hc
          cases e
          have he : y = y' := he
          subst he
          cases h
          obtain ⟨b, p, es, rfl, h1, h2, h3⟩ := hs
          exact mono (Rep.ptr.2 ⟨b, p, es, rfl, h1, h2, h3⟩)
        · cases h
      · cases h
    · cases h
  · split at h
    · cases h
      have hs : v = .pointer none := hs
      rw [hs]
      exact Rep.nil.2 rfl
    · cases h
  · split at h
    · split at h
      · rename_i hn
        have hn := Nat.eq_of_beq_eq_true hn
        subst hn
        have hs : v = .func (.func _) #[] #[] := hs
        rw [hs]
        exact Rep.fnv.2 rfl
      · cases h
    · cases h
  · cases h
theorem expL0_ok {mem : List (Blk E.toTys)} {rd : Nat → Blk E.toTys} (hm : ∀ (id : Nat) blk, mem[id]? = some blk → RM X φ w (okb A φ mem w) id blk) (hrd : ∀ id, rd id = nth .gone mem id ∨ rd id = .gone) {ok' : Nat → Prop}
    (hok : ∀ b, okb A φ mem w b → ok' b) : ∀ {ts : List Ty} {l : List (SV E.toTys)} {x : HL E.toTys ts} {vs : List Value}, (∀ id, .ref id ∈ l → ∀ h b, φ id = some h → h.blk = some b → ok' b) → expL0 rd ts l = some x → All2 (RS X φ w (okb A φ mem w)) l vs →
    RVL (Rep X w ok') ts x vs
  | [], [], x, vs, _, h, k => by cases k; rfl
  | [], _ :: _, x, vs, _, h, k => by simp [expL0] at h
  | _ :: _, [], x, vs, _, h, k => by simp [expL0] at h
  | t :: ts, s :: l, x, vs, hown, h, k => by
    cases k with
    | cons k1 k2 =>
      simp only [expL0] at h
      split at h
      · rename_i y ys h1 h2
        cases h
        exact ⟨_, _, rfl, k1.one, expS0_ok hm hrd hok (fun id e => hown id (by rw [e]; simp)) h1 k1, expL0_ok hm hrd hok (fun id e => hown id (by simp [e])) h2 k2⟩
      · cases h
theorem expC0_ok {mem : List (Blk E.toTys)} {rd : Nat → Blk E.toTys} (hm : ∀ (id : Nat) blk, mem[id]? = some blk → RM X φ w (okb A φ mem w) id blk) (hrd : ∀ id, rd id = nth .gone mem id ∨ rd id = .gone) {ok' : Nat → Prop}
    (hok : ∀ b, okb A φ mem w b → ok' b) {t : Ty} {l : List (SV E.toTys)} {x : den E.toTys t} {vs : List Value} (hown : ∀ id, .ref id ∈ l → ∀ h b, φ id = some h → h.blk = some b → ok' b) (h : expC0 rd t l = some x)
    (k : All2 (RS X φ w (okb A φ mem w)) l vs) : Rep X w ok' t x vs := by
  unfold expC0 at h
  split at h
  · split at h
    · rename_i y hy
      cases h
      refine Rep.st.2 ?_
      rw [E.to_of]
      exact expL0_ok hm hrd hok hown hy k
    · cases h
  · split at h
    · rename_i v
      cases k with
      | cons k1 k2 =>
        cases k2
        exact expS0_ok hm hrd hok (fun id e => hown id (by simp [e])) h k1
    · cases h
end
end Go.Proofs.Ytlamlgfngpmhgaa.V.B
namespace Go.Proofs.Ytlamlgfngpmhgaa.V.B
open Go.RowKit
set_option linter.unusedVariables false
set_option linter.unusedSimpArgs false
section
variable {E : Env} {X : XRep E} {P : Program} {C : Ctx E} {w0 : W0} {w w' : World} {A : Nat → Prop} {φ : Nat → Option Hd} {st : St E.toTys} {a : Act} {o : Oper} {R : Type} {r : R} {Q : Exit → Act → World → Prop} {K : KT E R}
def allGone (us : List (Nat × Blk E.toTys)) : Prop := ∀ p ∈ us, p.2 = .gone
theorem frz_gone : ∀ l : List (SV E.toTys), allGone (frz l)
  | [], p, h => by simp [frz] at h
  | s :: l, p, h => by
    cases s <;> simp only [frz] at h <;> first | exact frz_gone l p h | skip
    rcases List.mem_cons.1 h with rfl | h
    · rfl
    · exact frz_gone l p h
theorem frz_mem {id : Nat} : ∀ {l : List (SV E.toTys)}, .ref id ∈ l → (id, Blk.gone) ∈ frz l
  | [], h => by simp at h
  | s :: l, h => by
    rcases List.mem_cons.1 h with rfl | h
    · simp [frz]
    · have := frz_mem h
      cases s <;> simp only [frz] <;> first | exact this | exact List.mem_cons_of_mem _ this
theorem frz_ref {id : Nat} {b : Blk E.toTys} : ∀ {l : List (SV E.toTys)}, (id, b) ∈ frz l → .ref id ∈ l
  | [], h => by simp [frz] at h
  | s :: l, h => by
    cases s <;> simp only [frz] at h <;> first | exact List.mem_cons_of_mem _ (frz_ref h) | skip
    rcases List.mem_cons.1 h with e | h
    · cases e; simp
    · exact List.mem_cons_of_mem _ (frz_ref h)
theorem app_get : ∀ {us : List (Nat × Blk E.toTys)} {mem : List (Blk E.toTys)} {j : Nat} {m : Blk E.toTys}, allGone us → (app mem us)[j]? = some m → live m → mem[j]? = some m ∧ (j, Blk.gone) ∉ us
  | [], mem, j, m, _, h, _ => ⟨h, by simp⟩
  | (i, b) :: us, mem, j, m, hg, h, l => by
    have hb : b = .gone := hg (i, b) (by simp)
    subst hb
    obtain ⟨h1, h2⟩ := app_get (us := us) (mem := put1 mem i .gone) (fun p hp => hg p (by simp [hp])) h l
    rw [put1_eq] at h1
    rcases set_get h1 with ⟨rfl, rfl⟩ | ⟨ne, g1⟩
    · cases l
    · exact ⟨g1, by simp [h2, ne]⟩
theorem app_put {us : List (Nat × Blk E.toTys)} : ∀ {mem : List (Blk E.toTys)} {s : Nat} {b : Blk E.toTys}, (∀ p ∈ us, p.1 ≠ s) → app (put1 mem s b) us = put1 (app mem us) s b := by
  induction us with
  | nil => intro mem s b _; rfl
  | cons p us ih =>
    intro mem s b h
    obtain ⟨i, c⟩ := p
    have hi : i ≠ s := h (i, c) (by simp)
    rw [app, app, ← ih fun p hp => h p (by simp [hp])]
    congr 1
    rw [put1_eq, put1_eq, put1_eq, put1_eq, List.set_comm _ _ (fun e => hi e.symm)]
theorem app_same {us : List (Nat × Blk E.toTys)} : ∀ {mem : List (Blk E.toTys)} {s : Nat}, (∀ p ∈ us, p.1 ≠ s) → (app mem us)[s]? = mem[s]? := by
  induction us with
  | nil => intro mem s _; rfl
  | cons p us ih =>
    intro mem s h
    obtain ⟨i, c⟩ := p
    rw [app, ih fun p hp => h p (by simp [hp]), put1_eq, set_other fun e => h (i, c) (by simp) e.symm]
theorem app_cat : ∀ (us vs : List (Nat × Blk E.toTys)) (mem : List (Blk E.toTys)), app mem (us ++ vs) = app (app mem us) vs
  | [], vs, mem => rfl
  | (i, b) :: us, vs, mem => app_cat us vs _
theorem Sim.gones (S : Sim X w0 A φ st a w) : ∀ {us : List (Nat × Blk E.toTys)}, allGone us → Sim X w0 A φ ⟨st.tmps, app st.mem us⟩ a w := by
  intro us
  induction us generalizing st with
  | nil => exact fun _ => S
  | cons p us ih =>
    intro h
    obtain ⟨i, b⟩ := p
    have hb : b = .gone := h (i, b) (by simp)
    subst hb
    exact ih (S.gone i) fun p hp => h p (by simp [hp])
theorem ok_gones {us : List (Nat × Blk E.toTys)} {mem : List (Blk E.toTys)} (hg : allGone us) {b : Nat} (h : okb A φ mem w b) : okb A φ (app mem us) w b := by
  refine ⟨h.1, h.2.1, fun ⟨j, m, k, h1, h2, h3⟩ => h.2.2 ⟨j, m, k, (app_get hg h1 h2).1, h2, h3⟩⟩
/-- The block of a row that is given up is nobody's. -/
theorem ok_given (S : Sim X w0 A φ st a w) {us : List (Nat × Blk E.toTys)} (hg : allGone us) {id : Nat} {m : Blk E.toTys} {h : Hd} {b : Nat} (hu : (id, Blk.gone) ∈ us) (h1 : st.mem[id]? = some m) (h2 : live m) (h3 : φ id = some h) (h4 : h.blk = some b) :
    okb A φ (app st.mem us) w b := by
  refine ⟨S.blk_lt ⟨id, m, h, h1, h2, h3, h4⟩, S.al _ (S.new _ ⟨id, m, h, h1, h2, h3, h4⟩), fun ⟨j, m', k, g1, g2, g3, g4⟩ => ?_⟩
  obtain ⟨g5, g6⟩ := app_get hg g1 g2
  have := S.sep j id m' m k h b g5 h1 g2 h2 g3 h3 g4 h4
  subst this
  exact g6 hu
theorem exp_live {rd : Nat → Blk E.toTys} {t : Ty} {id : Nat} {x : den E.toTys t} (h : expS0 rd t (.ref id) = some x) : live (rd id) := by
  unfold expS0 at h
  simp only at h
  split at h
  · split at h
    · rename_i hr; rw [hr]; trivial
    · cases h
  · cases h
theorem expL_live {rd : Nat → Blk E.toTys} {id : Nat} : ∀ {ts : List Ty} {l : List (SV E.toTys)} {x : HL E.toTys ts}, expL0 rd ts l = some x → .ref id ∈ l → live (rd id)
  | [], [], _, _, h => by simp at h
  | [], _ :: _, _, h, _ => by simp [expL0] at h
  | _ :: _, [], _, h, _ => by simp [expL0] at h
  | t :: ts, s :: l, x, h, hm => by
    simp only [expL0] at h
    split at h
    · rename_i y ys h1 h2
      rcases List.mem_cons.1 hm with rfl | hm
      · exact exp_live h1
      · exact expL_live h2 hm
    · cases h
theorem expC_live {rd : Nat → Blk E.toTys} {id : Nat} {t : Ty} {l : List (SV E.toTys)} {x : den E.toTys t} (h : expC0 rd t l = some x) (hm : .ref id ∈ l) : live (rd id) := by
  unfold expC0 at h
  split at h
  · split at h
    · rename_i y hy; exact expL_live hy hm
    · cases h
  · split at h
    · simp at hm; subst hm; exact exp_live h
    · cases h
theorem rd_live {mem : List (Blk E.toTys)} {rd : Nat → Blk E.toTys} {id : Nat} (hrd : ∀ id, rd id = nth .gone mem id ∨ rd id = .gone) (h : live (rd id)) : mem[id]? = some (rd id) := rd_some hrd rfl h
theorem buildElems_sub {rd : Nat → Blk E.toTys} {u : Ty} : ∀ {parts : List (Nat × AV E.toTys)} {xs xs' : List (den E.toTys u)} {us us' : List (Nat × Blk E.toTys)}, buildElems rd u parts xs us = some (xs', us') →
    (∀ p ∈ us, p ∈ us') ∧ (allGone us → allGone us') ∧ xs'.length = xs.length
  | [], xs, xs', us, us', h => by simp only [buildElems, Option.some.injEq, Prod.mk.injEq] at h; obtain ⟨rfl, rfl⟩ := h; exact ⟨fun p hp => hp, fun h => h, rfl⟩
  | (i, .arr _ _ _) :: parts, xs, xs', us, us', h => by simp [buildElems] at h
  | (i, .tup _) :: parts, xs, xs', us, us', h => by simp [buildElems] at h
  | (i, .clo _ _) :: parts, xs, xs', us, us', h => by simp [buildElems] at h
  | (i, .c v) :: parts, xs, xs', us, us', h => by
    simp only [buildElems] at h
    split at h
    · cases h
    split at h
    · split at h
      · obtain ⟨h1, h2, h3⟩ := buildElems_sub h
        rw [cat_eq] at h1 h2
        rw [put1_eq, List.length_set] at h3
        exact ⟨fun p hp => h1 p (by simp [hp]), fun g => h2 fun p hp => by
          rcases List.mem_append.1 hp with hp | hp
          · exact g p hp
          · exact frz_gone _ p hp, h3⟩
      · cases h
    · cases h
theorem isD_ne {v : CV E.toTys} (h : isD v = false) : v ≠ .s .dead := by rintro rfl; cases h
theorem buildElems_ok (S : Sim X w0 A φ st a w) {rd : Nat → Blk E.toTys} (hrd : ∀ id, rd id = nth .gone st.mem id ∨ rd id = .gone) {ok' : Nat → Prop} (hok : ∀ b, okb A φ st.mem w b → ok' b) {u : Ty} {size : Nat} (hs : size = sz E u) (hpos : 0 < size) :
    ∀ (parts : List (Nat × Operand)) (xs xs' : List (den E.toTys u)) (us us' : List (Nat × Blk E.toTys)) (cl : Array Value), buildElems rd u (parts.map fun p => (p.1, ev st.tmps p.2)) xs us = some (xs', us') →
      (∀ (id : Nat) m h b, (id, Blk.gone) ∈ us' → st.mem[id]? = some m → live m → φ id = some h → h.blk = some b → ok' b) → Lay X w ok' u xs cl.toList →
      ∃ cl' : Array Value, Instr.fill (fun i => some (i * size, size)) cl (parts.map fun p => (p.1, a.eval p.2)) = some cl' ∧ Lay X w ok' u xs' cl'.toList
  | [], xs, xs', us, us', cl, h, _, hl => by
    simp only [List.map_nil, buildElems, Option.some.injEq, Prod.mk.injEq] at h
    obtain ⟨rfl, rfl⟩ := h
    exact ⟨cl, rfl, hl⟩
  | (i, x) :: parts, xs, xs', us, us', cl, h, hg, hl => by
    have hx := S.ev (X := X) x
    simp only [List.map_cons] at h ⊢
    generalize hev : ev st.tmps x = vx at h hx
    cases vx with
    | arr => simp [buildElems] at h
    | tup => simp [buildElems] at h
    | clo => simp [buildElems] at h
    | c v =>
      simp only [buildElems] at h
      split at h
      · cases h
      rename_i hnd
      split at h
      · rename_i y hy
        split at h
        · rename_i hb
          have hlt : i < xs.length := by rw [← len_eq]; exact Nat.le_of_ble_eq_true hb
          have hcells := RC.cells (isD_ne hnd) hx
          have hsub := buildElems_sub h
          have hrep : Rep X w ok' u y (a.eval x).cells.toList := expC0_ok S.mm hrd hok (fun id hid k b h1 h2 =>
            hg id _ k b (hsub.1 _ (by rw [cat_eq]; exact List.mem_append_right _ (frz_mem hid))) (rd_live hrd (expC_live hy hid)) (expC_live hy hid) h1 h2) hy hcells
          have l1 := hrep.length
          have l2 := hl.length
          have hi : i * size + size ≤ cl.size := by
            have : cl.toList.length = cl.size := Array.length_toList
            have h3 : (i + 1) * size ≤ xs.length * size := Nat.mul_le_mul_right _ hlt
            rw [← hs] at l2
            rw [Nat.add_mul, Nat.one_mul] at h3
            omega
          rw [Array.length_toList] at l1
          obtain ⟨cl1, e1, e2⟩ := fill_step (place := fun i => some (i * size, size)) (cells := cl) (i := i) (v := a.eval x) (rest := parts.map fun p => (p.1, a.eval p.2)) rfl (by omega) (by omega)
          rw [e1]
          refine buildElems_ok S hrd hok hs hpos parts _ xs' _ us' cl1 h hg ?_
          rw [e2]
          have := hl.put hlt hrep
          rw [hs]
          rwa [Array.length_toList] at this
        · cases h
      · cases h
theorem buildElems_φ (S : Sim X w0 A φ st a w) {rd : Nat → Blk E.toTys} {u : Ty} : ∀ {parts : List (Nat × Operand)} {xs xs' : List (den E.toTys u)} {us us' : List (Nat × Blk E.toTys)}, buildElems rd u (parts.map fun p => (p.1, ev st.tmps p.2)) xs us = some (xs', us') →
    (∀ p ∈ us, φ p.1 ≠ none) → ∀ p ∈ us', φ p.1 ≠ none
  | [], xs, xs', us, us', h, hu => by simp only [List.map_nil, buildElems, Option.some.injEq, Prod.mk.injEq] at h; obtain ⟨rfl, rfl⟩ := h; exact hu
  | (i, x) :: parts, xs, xs', us, us', h, hu => by
    have hx := S.ev (X := X) x
    simp only [List.map_cons] at h
    generalize hev : ev st.tmps x = vx at h hx
    cases vx with
    | arr => simp [buildElems] at h
    | tup => simp [buildElems] at h
    | clo => simp [buildElems] at h
    | c v =>
      simp only [buildElems] at h
      split at h
      · cases h
      rename_i hnd
      split at h
      · split at h
        · refine buildElems_φ S h fun p hp => ?_
          rw [cat_eq] at hp
          rcases List.mem_append.1 hp with hp | hp
          · exact hu p hp
          · obtain ⟨id, b⟩ := p
            have hr := frz_ref hp
            obtain ⟨k, hk⟩ := List.mem_iff_getElem?.1 hr
            obtain ⟨y, hy, hd, _, _, _, h1, _⟩ := (RC.cells (isD_ne hnd) hx).get hk
            show φ id ≠ none
            rw [h1]; intro e; cases e
        · cases h
      · cases h
theorem madeL {ok : Nat → Prop} {u : Ty} {x : den E.toTys u} {z : Array Value} (h : Rep X w ok u x z.toList) (hp : 0 < sz E u) (n : Nat) : Lay X w ok u (List.replicate n x) (madeCells z (n * sz E u)).toList := by
  have hz : z.size = sz E u := by rw [← h.length]; simp
  refine Lay.of_get (by rw [Array.length_toList, size_madeCells, List.length_replicate]) fun j y hj => ?_
  have hyx : y = x := List.eq_of_mem_replicate (List.mem_of_getElem? hj)
  have hj := (List.getElem?_eq_some_iff.1 hj).1
  rw [List.length_replicate] at hj
  rw [hyx]
  have : ((madeCells z (n * sz E u)).toList.drop (j * sz E u)).take (sz E u) = z.toList := by
    apply List.ext_getElem?
    intro k
    have hjn : (j + 1) * sz E u ≤ n * sz E u := Nat.mul_le_mul_right _ hj
    rw [Nat.add_mul, Nat.one_mul] at hjn
    rw [List.getElem?_take]
    split
    · rename_i hk
      have h1 : j * sz E u + k < n * sz E u := by omega
      have h2 : (j * sz E u + k) % z.size = k := by
        rw [hz, Nat.mul_comm, Nat.mul_add_mod, Nat.mod_eq_of_lt hk]
      rw [List.getElem?_drop, Array.getElem?_toList]
      simp [madeCells, h1, h2]
      rw [Array.getElem?_eq_getElem (by omega), getElem!_pos z k (by omega)]
    · rename_i hk
      rw [List.getElem?_eq_none (by simp; omega)]
  rw [this]
  exact h
theorem out_buildSlice (T : Tie X P C) (S : Sim X w0 A φ st a w) {t n slot : Nat} {parts : Array (Nat × Operand)} {rd : Nat → Blk E.toTys} (hrd : ∀ id, rd id = nth .gone st.mem id ∨ rd id = .gone) (ho : o.op = .buildSlice t n parts)
    (hf : st.mem[slot]? = some .free) (h : opBuildSlice C t n rd (parts.toList.map fun p => (p.1, ev st.tmps p.2)) slot K = some r) : Out X P w0 A st o a w Q K r := by
  unfold opBuildSlice at h
  split at h
  · rename_i u hty
    split at h
    · rename_i xs us hsm hb
      obtain ⟨e, i, z, g1, g2, g3, g4, g5, g6, g7, g8, g9⟩ := T.slice hty
      obtain ⟨s1, s2, s3⟩ := buildElems_sub hb
      have hg : allGone us := s2 fun p hp => by simp at hp
      have hne : ∀ p ∈ us, p.1 ≠ slot := fun p hp e => buildElems_φ S hb (fun p hp => by simp at hp) p hp (by rw [e]; exact S.φfree hf)
      rw [rep_eq] at hb s3
      rw [List.length_replicate] at s3
      have S1 := S.gones hg
      have hf1 : (app st.mem us)[slot]? = some .free := by rw [app_same hne]; exact hf
      have hL : Lay X w (okb A φ (app st.mem us) w) u (List.replicate n (dflt E u)) (madeCells z.cells (n * i.size)).toList := by rw [g5]; exact madeL (g9 w _) g6 n
      obtain ⟨cl, k1, k2⟩ := buildElems_ok S hrd (fun b hb => ok_gones hg hb) g5 (by omega) parts.toList _ xs _ us (madeCells z.cells (n * i.size)) hb (fun id m hd b h1 h2 h3 h4 h5 => ok_given S hg h1 h2 h3 h4 h5) hL
      have kl := k2.length
      rw [Array.length_toList, s3] at kl
      have run : (execOp a.eval o).run P w = .ok (.value (.slice (some ⟨w.heap.size, 0, none⟩) n n)) (w.alloc (.cells cl e)) := by
        by_cases h0 : n = 0
        · subst h0
          have hc : cl = #[] := Array.eq_empty_of_size_eq_zero (by omega)
          subst hc
          have hp : parts.toList.map (fun p => (p.1, a.eval p.2)) = [] := by
            cases hpl : parts.toList with
            | nil => rfl
            | cons p ps =>
              rw [hpl] at hb
              exfalso
              simp only [List.map_cons] at hb
              generalize ev st.tmps p.2 = vx at hb
              cases vx <;> simp [buildElems] at hb
              split at hb
              · cases hb
              · split at hb
                · split at hb
                  · rename_i hlt; simp [len, Nat.blt, Nat.ble] at hlt
                  · cases hb
                · cases hb
          have hp' : parts = #[] := by
            apply Array.ext'
            simpa using hp
          subst hp'
          have hr0 : ∀ f : Nat → Value, Array.map f (Array.range 0) = #[] := fun f => Array.eq_empty_of_size_eq_zero (by simp)
          simp [execOp, ho, Instr.buildSlice, run_underlying g1, sizeOf, typeInfo, g3, Go.newRow, Instr.fill, hr0]
        · have hnz : ¬ n * i.size = 0 := by rw [g5]; exact Nat.mul_ne_zero h0 (by omega)
          have hle : ¬ n * i.size > 2 ^ 24 := by
            have := Nat.le_of_ble_eq_true hsm
            rw [g5]; omega
          have hfl : Instr.fill (fun j => some (j * i.size, i.size)) ((Array.range (n * i.size)).map (z.cells[· % z.cells.size]!)) (parts.map fun (x : Nat × Operand) => (x.1, a.eval x.2)).toList = some cl := by
            have : (parts.map fun (x : Nat × Operand) => (x.1, a.eval x.2)).toList = parts.toList.map fun p => (p.1, a.eval p.2) := by simp
            rw [this]; exact k1
          have := run_buildSlice (P := P) w t e n _ cl i z g1 g3 g4 hle hnz hfl
          simp only [execOp, ho, Sem.run_bind]
          rw [this]
          rfl
      obtain ⟨φ', S', hφ⟩ := S1.newRow (w' := w.alloc (.cells cl e)) hf1 rfl (below_alloc _ _) (cap := n) (by omega) kl k2 (by rw [List.take_length])
      rw [s3] at hφ
      refine ⟨_, _, h, good_mem (φ' := φ') run ?_ (RA.ofRef hφ)⟩
      show Sim X w0 A φ' ⟨st.tmps, app (put1 st.mem slot (.arr u xs)) us⟩ a _
      rw [app_put hne]
      exact S'
    · cases h
  · cases h
theorem out_build (T : Tie X P C) (S : Sim X w0 A φ st a w) {t : Nat} {parts : Array (Nat × Operand)} {rd : Nat → Blk E.toTys} (hrd : ∀ id, rd id = nth .gone st.mem id ∨ rd id = .gone) (ho : o.op = .build t parts)
    (h : opBuild C t rd (parts.toList.map fun p => (p.1, ev st.tmps p.2)) K = some r) : Out X P w0 A st o a w Q K r := by
  unfold opBuild at h
  split at h
  · rename_i n hty
    split at h
    · rename_i cs hz
      split at h
      · rename_i cs' hb
        obtain ⟨cl, h1, h2⟩ := run_build T S hty hz hb
        exact ⟨_, _, h, good_pure S (u := .agg cl) (by simp only [execOp, ho, Sem.run_bind]; rw [h1]; rfl) ⟨cl.toList, by simp, h2⟩⟩
      · cases h
    · cases h
  · rename_i n u hty
    split at h
    · rename_i xs us hb
      obtain ⟨inf, z, hi, hzz, hsz, hpos, hd, hzc⟩ := T.info t _ hty
      obtain ⟨d, hd1, hd2⟩ := T.desc t _ hty
      cases d <;> first | (cases hd2; done) | skip
      rename_i m e
      obtain ⟨rfl, hme⟩ := hd2
      obtain ⟨i, z', q1, q2, q3, q4, q5, _⟩ := T.info _ _ hme
      obtain ⟨s1, s2, s3⟩ := buildElems_sub hb
      have hg : allGone us := s2 fun p hp => by simp at hp
      have S1 := S.gones hg
      rw [rep_eq] at hb s3
      rw [List.length_replicate] at s3
      have hL : Lay X w (okb A φ (app st.mem us) w) u (List.replicate n (dflt E u)) z.cells.toList := (Rep.arrL.1 (hd w _)).2
      obtain ⟨cl, k1, k2⟩ := buildElems_ok S hrd (fun b hb => ok_gones hg hb) q3 (by omega) parts.toList _ xs _ us z.cells hb (fun id m hd b h1 h2 h3 h4 h5 => ok_given S hg h1 h2 h3 h4 h5) hL
      have hpe' : (Array.map (fun x => match x with | (i, x) => (i, a.eval x)) parts).toList = parts.toList.map fun p => (p.1, a.eval p.2) := by simp
      refine ⟨_, _, h, good_mem (φ' := φ) (w' := w) (u := .agg cl) ?_ S1 ⟨cl.toList, by simp, Rep.arrL.2 ⟨s3, k2⟩⟩⟩
      simp only [execOp, ho, Sem.run_bind, Instr.build, zeroValue, typeInfo, run_program, Result.andThen_ok, hi, Sem.run_pure, hzz, run_underlying hd1, sizeOf, q1, hpe', k1]
    · cases h
  · cases h
theorem out_make (T : Tie X P C) (S : Sim X w0 A φ st a w) {t slot : Nat} {x y : Operand} (ho : o.op = .makeSlice t x y) (hxy : a.eval y = a.eval x) (hf : st.mem[slot]? = some .free) (h : opMake C t (ev st.tmps x) slot K = some r) : Out X P w0 A st o a w Q K r := by
  have hx := S.ev (X := X) x
  unfold opMake at h
  split at h
  · rename_i u k n hty ex
    rw [ex] at hx
    change Int at n
    split at h
    · rename_i h0
      have h0 : (0 : Int) ≤ n := h0
      split at h
      · rename_i h1
        have h1 : n ≤ 140737488355328 / (C.bytes t : Int) := h1
        obtain ⟨e, i, z, g1, g2, g3, g4, g5, g6, g7, g8, g9⟩ := T.slice hty
        have hb : (i.bytes : Int) * n ≤ 140737488355328 := by
          rw [← g7] at h1
          have := (Int.le_ediv_iff_mul_le (by omega)).1 h1
          rwa [Int.mul_comm] at this
        have hn : n ≤ 140737488355328 := by
          have : n * 1 ≤ n * (i.bytes : Int) := Int.mul_le_mul_of_nonneg_left (by omega) h0
          rw [Int.mul_comm n (i.bytes : Int), Int.mul_one] at this
          exact Int.le_trans this hb
        have hr := run_make (P := P) w t e i z g1 g3 g4 k k n n h0 (Int.le_refl _) (by omega) (by omega)
        have run : (execOp a.eval o).run P w = .ok (.value (.slice (some ⟨w.heap.size, 0, none⟩) n.toNat n.toNat)) (w.alloc (.cells (madeCells z.cells (n.toNat * i.size)) e)) := by
          simp only [execOp, ho, Sem.run_bind, hxy, hx.int, hr]; rfl
        have hL : Lay X w (okb A φ st.mem w) u (List.replicate n.toNat (dflt E u)) (madeCells z.cells (n.toNat * i.size)).toList := by rw [g5]; exact madeL (g9 w _) g6 _
        obtain ⟨φ', S', hφ⟩ := S.newRow (w' := w.alloc (.cells (madeCells z.cells (n.toNat * i.size)) e)) hf rfl (below_alloc _ _) (cap := n.toNat) (by rw [List.length_replicate]; exact Nat.le_refl _) (by rw [size_madeCells, g5]) hL (by rw [List.take_length])
        rw [List.length_replicate] at hφ
        exact ⟨_, _, h, good_mem run S' (RA.ofRef hφ)⟩
      · cases h
    · cases h
  · cases h
end
end Go.Proofs.Ytlamlgfngpmhgaa.V.B
namespace Go.Proofs.Ytlamlgfngpmhgaa.V.B
open Go.RowKit
set_option linter.unusedVariables false
set_option linter.unusedSimpArgs false
section
variable {E : Env} {X : XRep E} {P : Program} {C : Ctx E} {w0 : W0} {w w' : World} {A : Nat → Prop} {φ : Nat → Option Hd} {st : St E.toTys} {a : Act} {o : Oper} {R : Type} {r : R} {Q : Exit → Act → World → Prop} {K : KT E R}
theorem run_storeVar_at {b off : Nat} {c : Array Value} {e t : TypeId} {i : TypeInfo} {v : Value} (hg : w.heap[b]? = some (.cells c e (0, 0))) (hi : P.info? t = some i) (hs : v.cells.size = i.size) (hl : off + v.cells.size ≤ c.size)
    (h1 : ∀ x ∈ v.cells.toList, x.oneCell' = true) :
    (storeVar t ⟨b, off, none⟩ v).run P w = .ok () (w.setRow b (c.toList.take off ++ (v.cells.toList ++ c.toList.drop (off + v.cells.size))).toArray) := by
  have := run_storeCells_at P b off e v.cells.toList 0 c w hg (by simpa using hl) h1
  simp only [Nat.add_zero, Array.length_toList, List.append_assoc] at this
  simp [storeVar, sizeOf, typeInfo, hi, hs, this]
theorem all_one {φ : Nat → Option Hd} {ok : Nat → Prop} {cs : List (SV E.toTys)} {vs : List Value} (h : All2 (RS X φ w ok) cs vs) : ∀ x ∈ vs, x.oneCell' = true := by
  intro x hx
  obtain ⟨k, hk⟩ := List.mem_iff_getElem?.1 hx
  obtain ⟨s, _, hs⟩ := h.get' hk
  exact hs.one
theorem run_store_op {t : TypeId} {x y : Operand} {ad : Addr} (ho : o.op = .store t x y) (hx : a.eval x = .pointer (some ad)) (hr : (storeVar t ad (a.eval y)).run P w = .ok () w') : (execOp a.eval o).run P w = .ok .skip w' := by
  simp [execOp, ho, Instr.storeAt, hx, Instr.sureAddr, hr]
theorem below_set {b : Nat} (w : World) (cs : Array Value) : Below b w (w.setRow b cs) := below_setRow (Below.refl _ _) (Nat.le_refl _) cs
theorem hasU_not {id : Nat} : ∀ {us : List (Nat × Blk E.toTys)}, hasU id us = false → ∀ p ∈ us, p.1 ≠ id
  | [], _, p, hp => by simp at hp
  | (i, b) :: us, h, p, hp => by
    simp only [hasU, Bool.or_eq_false_iff] at h
    rcases List.mem_cons.1 hp with rfl | hp
    · intro e
      have e : i = id := e
      rw [e, Nat.beq_refl] at h
      exact absurd h.1 (by simp)
    · exact hasU_not h.2 p hp
theorem elt_splice {α : Type} (L vs : List α) (p s off : Nat) (h : off + vs.length ≤ s) (hL : p + s ≤ L.length) :
    L.take p ++ ((((L.drop p).take s).take off ++ (vs ++ ((L.drop p).take s).drop (off + vs.length))) ++ L.drop (p + s)) = L.take (p + off) ++ (vs ++ L.drop (p + off + vs.length)) := by
  have e1 : L.take (p + off) = L.take p ++ ((L.drop p).take s).take off := by
    rw [List.take_take, Nat.min_eq_left (by omega), List.take_add]
  have e2 : ((L.drop p).take s).drop (off + vs.length) ++ L.drop (p + s) = L.drop (p + off + vs.length) := by
    have h1 : L.drop (p + off + vs.length) = (L.drop p).drop (off + vs.length) := by rw [List.drop_drop, Nat.add_assoc]
    have h2 : L.drop (p + s) = (L.drop p).drop s := by rw [List.drop_drop]
    rw [h1, h2]
    conv => rhs; rw [← List.take_append_drop s (L.drop p)]
    rw [List.drop_append_of_le_length (by rw [List.length_take, List.length_drop]; omega)]
  rw [e1, ← e2]
  simp only [List.append_assoc]
theorem Lay.one {ok : Nat → Prop} {u : Ty} (hu : ∀ n t, u ≠ .arr n t) : ∀ {xs : List (den E.toTys u)} {L : List Value}, Lay X w ok u xs L → ∀ x ∈ L, x.oneCell' = true
  | [], L, h, x, hx => by cases h; simp at hx
  | y :: ys, L, h, x, hx => by
    obtain ⟨es, r, rfl, h1, h2⟩ := h
    rcases List.mem_append.1 hx with hx | hx
    · exact all_one (flat_rep (φ := fun _ => none) hu h1) x hx
    · exact Lay.one hu h2 x hx
theorem row_take {α : Type} (L vs rest : List α) (p : Nat) (h : p + vs.length ≤ L.length) : ((L ++ rest).take p ++ (vs ++ (L ++ rest).drop (p + vs.length))).take L.length = L.take p ++ (vs ++ L.drop (p + vs.length)) := by
  have e1 : (L ++ rest).take p = L.take p := List.take_append_of_le_length (by omega)
  rw [e1, List.drop_append_of_le_length h, ← List.append_assoc vs, ← List.append_assoc]
  exact List.take_left' (by simp only [List.length_append, List.length_take, List.length_drop]; omega)
/-- The value of an element, with some cells new. -/
theorem storeElt_ok (S : Sim X w0 A φ st a w) {rd : Nat → Blk E.toTys} (hrd : ∀ id, rd id = nth .gone st.mem id ∨ rd id = .gone) {u : Ty} {xs zs : List (den E.toTys u)} {i : Int} {off : Nat} {v : CV E.toTys} {x : Value} {es : List Value}
    (h : storeElt u xs i off (cells v) rd = some zs) (hv : All2 (RS X φ w (okb A φ st.mem w)) (cells v) x.cells.toList) (he : Rep X w (okb A φ st.mem w) u (rdA E u xs i) es) (hu : ∀ n t, u ≠ .arr n t) :
    ∃ y, zs = xs.set i.toNat y ∧ off + x.cells.size ≤ es.length ∧ Rep X w (okb A φ (app st.mem (frz (cells v))) w) u y (es.take off ++ (x.cells.toList ++ es.drop (off + x.cells.size))) := by
  unfold storeElt at h
  split at h
  · rename_i cs hsp
    split at h
    · rename_i y hy
      cases h
      have hf := flat_rep (φ := φ) hu he
      obtain ⟨hl, rfl⟩ := splice_some hsp
      have l1 : (cells v).length = x.cells.size := by simpa using hv.length
      have l2 := hf.length
      refine ⟨y, rfl, by omega, ?_⟩
      have hall : All2 (RS X φ w (okb A φ st.mem w)) ((flat u (rdA E u xs i)).take off ++ (cells v ++ (flat u (rdA E u xs i)).drop (off + (cells v).length))) (es.take off ++ (x.cells.toList ++ es.drop (off + x.cells.size))) := by
        rw [← l1]
        exact (hf.take _).app (hv.app (hf.drop _))
      refine expC0_ok S.mm hrd (fun b hb => ok_gones (frz_gone _) hb) (fun id hid k b h1 h2 => ?_) hy hall
      have hlive := expC_live hy hid
      have hin : SV.ref id ∈ cells v := by
        rcases List.mem_append.1 hid with hid | hid
        · have := List.mem_of_mem_take hid
          exact absurd this (flat_noref id)
        · rcases List.mem_append.1 hid with hid | hid
          · exact hid
          · exact absurd (List.mem_of_mem_drop hid) (flat_noref id)
      exact ok_given S (frz_gone _) (frz_mem hin) (rd_live hrd hlive) hlive h1 h2
    · cases h
  · cases h
where
  flatL_noref (id : Nat) : ∀ {ts : List Ty} {x : HL E.toTys ts}, SV.ref id ∉ flatL ts x
    | [], _, h => by simp [flatL] at h
    | t :: ts, x, h => by
      simp only [flatL] at h
      rcases List.mem_cons.1 h with e | h
      · cases e
      · exact flatL_noref id h
  flat_noref (id : Nat) {t : Ty} {x : den E.toTys t} : SV.ref id ∉ flat t x := by
    intro h
    cases t <;> simp only [flat] at h <;> first | exact flatL_noref id h | (simp at h; done)
theorem out_store (T : Tie X P C) (S : Sim X w0 A φ st a w) {t : Nat} {x y : Operand} {rd : Nat → Blk E.toTys} (hrd : ∀ id, rd id = nth .gone st.mem id ∨ rd id = .gone) (ho : o.op = .store t x y)
    (h : opStore C t rd (ev st.tmps x) (ev st.tmps y) K = some r) : Out X P w0 A st o a w Q K r := by
  have hx := S.ev (X := X) x
  have hy := S.ev (X := X) y
  unfold opStore at h
  simp only [gd_if, decide_eq_true_eq] at h
  split at h
  · cases h
  · rename_i id off v hnd ex ey
    rw [ex] at hx; rw [ey] at hy
    split at h
    · rename_i cs ty hm hty
      split at h
      · rename_i hb
        split at h
        · rename_i cs' hsp
          obtain ⟨hd, b, h1, h2, h3⟩ := hx (by intro h; cases h)
          obtain ⟨b', c, e, g1, g2, g3⟩ := S.mm id _ (rd_some hrd hm trivial)
          rw [h1] at g1; cases g1
          cases h2
          obtain ⟨i, z, hi, hz, hsz, hpos, _⟩ := T.info t _ hty
          have hv := RC.cells (fun e => hnd (by rw [e])) hy
          obtain ⟨hl, rfl⟩ := splice_some hsp
          have l1 : (cells v).length = (a.eval y).cells.size := by simpa using hv.length
          have l2 : cs.length = c.size := by simpa using g3.length
          have l3 : (cells v).length = sz E ty := by rw [← len_eq]; exact Nat.eq_of_beq_eq_true hb
          have hr := run_storeVar_at (P := P) (off := off) g2 hi (by omega) (by omega) (all_one hv)
          refine ⟨_, _, h, good_skip (run_store_op ho h3 hr) (S.wrote (rd_some hrd hm trivial) trivial h1 rfl (fun k hk => setRow_other w b k _ hk) (by simp [World.setRow]) (below_set w _) fun ok' hk => ⟨b, _, e, h1, setRow_heap w b c _ e _ g2, ?_⟩)⟩
          have hall : All2 (RS X φ w (okb A φ st.mem w)) (cs.take off ++ (cells v ++ cs.drop (off + (cells v).length))) (c.toList.take off ++ ((a.eval y).cells.toList ++ c.toList.drop (off + (a.eval y).cells.size))) := by
            rw [← l1]
            exact (g3.take off).app (hv.app (g3.drop _))
          exact hall.mono fun _ _ => RS.mono (fun _ _ h => h) hk
        · cases h
      · cases h
    · cases h
  · rename_i av id off m u' ys ex ey
    rw [ex] at hx; rw [ey] at hy
    split at h
    · rename_i n u xs t' hm hty
      split at h
      · rename_i heq
        subst heq
        split at h
        · rename_i zs hna hc
          obtain ⟨e, he⟩ := conv_some hc
          cases e
          have he : ys = zs := he
          subst he
          obtain ⟨hd, b, h1, h2, h3⟩ := hx (by intro h; cases h)
          obtain ⟨b', c, e, g1, g2, g3, g4⟩ := S.mm id _ (rd_some hrd hm trivial)
          rw [h1] at g1; cases g1
          cases h2
          obtain ⟨cs, hv, hy⟩ := hy
          obtain ⟨k1, k2⟩ := Rep.arrL.1 hy
          obtain ⟨i, z, hi, hz, hsz, hpos, _⟩ := T.info t _ hty
          have l1 := k2.length
          have l2 : c.size = xs.length * sz E u' := by simpa using g4.length
          simp only [sz] at hsz
          have hone : ∀ x ∈ cs, x.oneCell' = true := k2.one (by rintro n t rfl; cases hna)
          have hcs : c.size = cs.length := by rw [l1, l2, k1, g3]
          have hr := run_storeVar_at (P := P) (off := 0) (v := a.eval y) g2 hi (by rw [hv]; simp only [Value.cells, List.size_toArray]; rw [l1, k1, hsz]) (by rw [hv]; simp only [Value.cells, List.size_toArray]; omega) (by rw [hv]; simpa [Value.cells] using hone)
          rw [hv] at hr
          have hrow : (c.toList.take 0 ++ ((Value.agg cs.toArray).cells.toList ++ c.toList.drop (0 + (Value.agg cs.toArray).cells.size))).toArray = cs.toArray := by
            simp [Value.cells, hcs]
          rw [hrow, ← hv] at hr
          refine ⟨_, _, h, good_skip (run_store_op ho h3 hr) (S.wrote (rd_some hrd hm trivial) trivial h1 rfl (fun k hk => setRow_other w b k _ hk) (by simp [World.setRow]) (below_set w _) fun ok' hk => ⟨b, _, e, h1, setRow_heap w b c _ e _ g2, k1, ?_⟩)⟩
          simpa using k2.mono hk
        · cases h
      · cases h
    · cases h
  · rename_i id u i off v hnd ex ey
    rw [ex] at hx; rw [ey] at hy
    have hv := RC.cells (fun e => hnd (by rw [e])) hy
    obtain ⟨hd, b, h1, h2, h0, hn, h3⟩ := hx (by intro h; cases h)
    have l1 : (cells v).length = (a.eval y).cells.size := by simpa using hv.length
    split at h
    · rename_i u' xs ty hm hty
      split at h
      · rename_i hb
        split at h
        · rename_i ys hc
          obtain ⟨e, he⟩ := conv_some hc
          cases e
          have he : xs = ys := he
          subst he
          split at h
          · rename_i zs hst
            split at h
            · rename_i hnu
              obtain ⟨inf, z, hi, hz, hsz, hpos, _⟩ := T.info t _ hty
              have l3 : (cells v).length = sz E ty := by rw [← len_eq]; exact Nat.eq_of_beq_eq_true hb
              have hm' := rd_some hrd hm trivial
              obtain ⟨a', cap, bl, g1, g2, g3⟩ := S.mm id _ hm'
              rw [h1] at g1; cases g1
              rcases g3 with ⟨rfl, rfl⟩ | ⟨b', c, e, L, rfl, rfl, k1, k2, k3, k4⟩
              · cases h2
              cases h2
              have hLl := k3.length
              have hn' : i.toNat < xs.length := hn
              have hmul : (i.toNat + 1) * sz E u ≤ xs.length * sz E u := Nat.mul_le_mul_right _ hn'
              rw [Nat.add_mul, Nat.one_mul] at hmul
              obtain ⟨r1, r2⟩ := elt_cells (L := L) (w := w) (b := b) (by rw [← k4]; exact (At.row k1).take) k3 h0 hn
              have hna : ∀ n t, u ≠ .arr n t := by
                rintro n t rfl
                unfold storeElt at hst
                split at hst
                · rename_i cs hsp
                  have := (splice_some hsp).1
                  simp only [flat, List.length_nil] at this
                  omega
                · cases hst
              obtain ⟨yy, rfl, q1, q2⟩ := storeElt_ok S hrd hst hv r1 hna
              rw [r1.length] at q1
              have hcl : L.length ≤ c.size := by
                have h9 := congrArg List.length k4
                simp only [List.length_take] at h9
                have h8 : c.toList.length = c.size := Array.length_toList
                omega
              have hr := run_storeVar_at (P := P) (off := i.toNat * sz E u + off) k1 hi (v := a.eval y) (by omega) (by omega) (all_one hv)
              have S1 := S.gones (us := frz (cells v)) (frz_gone _)
              have hne := hasU_not hnu
              have hm1 : (app st.mem (frz (cells v)))[id]? = some (.arr u xs) := by rw [app_same hne]; exact hm'
              refine ⟨_, _, h, good_skip (φ' := φ) (run_store_op ho h3 hr) ?_⟩
              show Sim X w0 A φ ⟨st.tmps, app (put1 st.mem id _) (frz (cells v))⟩ a _
              rw [app_put hne]
              refine S1.wrote hm1 trivial h1 rfl (fun k hk => setRow_other w b k _ hk) (by simp [World.setRow]) (below_set w _) fun ok' hk => ?_
              have hL1 : Lay X w (okb A φ (app st.mem (frz (cells v))) w) u xs L := k3.mono fun b hb => ⟨ok_gones (frz_gone _) hb, rfl⟩
              have hset := hL1.set hn' q2
              have hel := elt_splice L (a.eval y).cells.toList (i.toNat * sz E u) (sz E u) off (by rw [Array.length_toList]; omega) (by omega)
              simp only [Array.length_toList] at hel
              have e1 : ((L.take (i.toNat * sz E u)) ++ ((((L.drop (i.toNat * sz E u)).take (sz E u)).take off ++ ((a.eval y).cells.toList ++ ((L.drop (i.toNat * sz E u)).take (sz E u)).drop (off + (a.eval y).cells.size))) ++ L.drop (i.toNat * sz E u + sz E u))).length = L.length := by
                rw [hel]; simp only [List.length_append, List.length_take, List.length_drop, Array.length_toList]; omega
              refine ⟨_, cap, _, by rw [List.length_set]; exact h1, by rw [List.length_set]; exact g2, .inr ⟨b, _, e, _, rfl, rfl, setRow_heap w b c _ e _ k1, ?_, hset.mono hk, ?_⟩⟩
              · refine Nat.le_trans k2 ?_; simp only [List.size_toArray, List.length_append, List.length_take, List.length_drop, Array.length_toList]; omega
              · rw [e1, hel]
                have hc : c.toList = L ++ c.toList.drop L.length := by
                  conv => lhs; rw [← List.take_append_drop L.length c.toList, k4]
                have hrt := row_take L (a.eval y).cells.toList (c.toList.drop L.length) (i.toNat * sz E u + off) (by rw [Array.length_toList]; omega)
                rw [← hc] at hrt
                simpa using hrt
            · cases h
          · cases h
        · cases h
      · cases h
    · rename_i n u' xs ty hm hty
      split at h
      · rename_i hb
        split at h
        · rename_i ys hc
          obtain ⟨e, he⟩ := conv_some hc
          cases e
          have he : xs = ys := he
          subst he
          split at h
          · rename_i zs hst
            split at h
            · rename_i hnu
              obtain ⟨inf, z, hi, hz, hsz, hpos, _⟩ := T.info t _ hty
              have l3 : (cells v).length = sz E ty := by rw [← len_eq]; exact Nat.eq_of_beq_eq_true hb
              have hm' := rd_some hrd hm trivial
              obtain ⟨b', c, e, g1, k1, g3, k3⟩ := S.mm id _ hm'
              rw [h1] at g1; cases g1
              cases h2
              have hLl := k3.length
              have hn' : i.toNat < xs.length := by rw [g3]; exact hn
              have hmul : (i.toNat + 1) * sz E u ≤ xs.length * sz E u := Nat.mul_le_mul_right _ hn'
              rw [Nat.add_mul, Nat.one_mul] at hmul
              obtain ⟨r1, r2⟩ := elt_cells (L := c.toList) (w := w) (b := b) (At.row k1) k3 h0 hn'
              have hna : ∀ n t, u ≠ .arr n t := by
                rintro n t rfl
                unfold storeElt at hst
                split at hst
                · rename_i cs hsp
                  have := (splice_some hsp).1
                  simp only [flat, List.length_nil] at this
                  omega
                · cases hst
              obtain ⟨yy, rfl, q1, q2⟩ := storeElt_ok S hrd hst hv r1 hna
              rw [r1.length] at q1
              have hcl : c.toList.length = c.size := Array.length_toList
              have hr := run_storeVar_at (P := P) (off := i.toNat * sz E u + off) k1 hi (v := a.eval y) (by omega) (by omega) (all_one hv)
              have S1 := S.gones (us := frz (cells v)) (frz_gone _)
              have hne := hasU_not hnu
              have hm1 : (app st.mem (frz (cells v)))[id]? = some (.avar n u xs) := by rw [app_same hne]; exact hm'
              refine ⟨_, _, h, good_skip (φ' := φ) (run_store_op ho h3 hr) ?_⟩
              show Sim X w0 A φ ⟨st.tmps, app (put1 st.mem id _) (frz (cells v))⟩ a _
              rw [app_put hne]
              refine S1.wrote hm1 trivial h1 rfl (fun k hk => setRow_other w b k _ hk) (by simp [World.setRow]) (below_set w _) fun ok' hk => ?_
              have hL1 : Lay X w (okb A φ (app st.mem (frz (cells v))) w) u xs c.toList := k3.mono fun b hb => ⟨ok_gones (frz_gone _) hb, rfl⟩
              have hset := hL1.set hn' q2
              have hel := elt_splice c.toList (a.eval y).cells.toList (i.toNat * sz E u) (sz E u) off (by rw [Array.length_toList]; omega) (by omega)
              have hvl : (a.eval y).cells.toList.length = (a.eval y).cells.size := Array.length_toList
              rw [hvl] at hel
              rw [hel] at hset
              exact ⟨b, _, e, h1, setRow_heap w b c _ e _ k1, by rw [List.length_set]; exact g3, hset.mono hk⟩
            · cases h
          · cases h
        · cases h
      · cases h
    · cases h
  · cases h
/-- A list that is read: where it lies. -/
theorem lst_ok (S : Sim X w0 A φ st a w) {rd : Nat → Blk E.toTys} (hrd : ∀ id, rd id = nth .gone st.mem id ∨ rd id = .gone) {u : Ty} {v : AV E.toTys} {xs : List (den E.toTys u)} {x : Value} (h : lst rd u v = some xs) (hx : RA X φ w (okb A φ st.mem w) v x) :
    ∃ p cap L, x = .slice p xs.length cap ∧ xs.length ≤ cap ∧ Lay X w (okb A φ st.mem w) u xs L ∧ (xs ≠ [] → ∃ b o', p = some ⟨b, o', none⟩ ∧ At w b o' L ∧ (okb A φ st.mem w b ∨ ∃ id m h, v = .c (.s (.ref id)) ∧ st.mem[id]? = some m ∧ live m ∧ φ id = some h ∧ h.blk = some b)) := by
  unfold lst at h
  split at h
  · cases h
    obtain ⟨p, rfl⟩ := hx (by intro h; cases h)
    exact ⟨p, 0, [], rfl, Nat.le_refl _, rfl, fun k => absurd rfl k⟩
  · rename_i t ys
    obtain ⟨e, he⟩ := conv_some h
    cases e
    have he : ys = xs := he
    subst he
    obtain ⟨p, cap, L, h1, h2, h3, h4⟩ := (hx (by intro h; cases h)).2.sliceL
    exact ⟨p, cap, L, h1, h2, h3, fun k => by obtain ⟨b, o', g1, g2, g3⟩ := h4 k; exact ⟨b, o', g1, g3, .inl g2⟩⟩
  · rename_i id
    split at h
    · rename_i u' ys hm
      obtain ⟨e, he⟩ := conv_some h
      cases e
      have he : ys = xs := he
      subst he
      obtain ⟨hd, p, n, c, h1, h2, h3⟩ := hx (by intro h; cases h)
      have hm' := rd_some hrd hm trivial
      obtain ⟨p', cap, bl, g1, g2, g3⟩ := S.mm id _ hm'
      rw [h1] at g1; cases g1
      rcases g3 with ⟨rfl, rfl⟩ | ⟨b, c, e, L, rfl, rfl, k1, k2, k3, k4⟩
      · have : ys = [] := List.eq_nil_of_length_eq_zero (by omega)
        subst this
        exact ⟨_, 0, [], h2, Nat.le_refl _, rfl, fun k => absurd rfl k⟩
      · exact ⟨_, cap, L, h2, g2, k3, fun _ => ⟨b, 0, rfl, by rw [← k4]; exact (At.row k1).take, .inr ⟨id, _, _, rfl, hm', trivial, h1, rfl⟩⟩⟩
    · cases h
  · cases h
theorem run_first {p : Option Addr} {n cap k : Nat} {L : List Value} {size : Nat} (hk : k * size ≤ L.length) (h : L ≠ [] → ∃ b o', p = some ⟨b, o', none⟩ ∧ At w b o' L) : (Builtin.firstCells size k (.slice p n cap)).run P w = .ok (L.take (k * size)).toArray w := by
  cases p with
  | none =>
    have : L = [] := Classical.byContradiction fun hne => by obtain ⟨b, o', e, _⟩ := h hne; cases e
    subst this
    simp [Builtin.firstCells]
  | some ad =>
    by_cases hne : L = []
    · subst hne
      have : k * size = 0 := by simpa using hk
      simp [Builtin.firstCells, loadCells, loadCellsFrom, this]
    · obtain ⟨b, o', e, hA⟩ := h hne
      cases e
      have := (hA.take (n := k * size)).list (P := P)
      rw [List.length_take, Nat.min_eq_left hk] at this
      simpa [Builtin.firstCells] using this
end
end Go.Proofs.Ytlamlgfngpmhgaa.V.B

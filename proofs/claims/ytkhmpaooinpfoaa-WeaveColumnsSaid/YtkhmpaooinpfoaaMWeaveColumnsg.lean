/- WeaveColumns: the column of any rows at any place, and any rows mixed by any elements, or the error; for up to 12 rows of up to 20 elements. Own text. -/
import Derived.Test.YtkhmpaooinpfoaaRows
import Derived.WalkKit
import Derived.ProofKit
import Derived.OpenShut
import Derived.ShutString
import Derived.ChangeOld
import Derived.Below
import Derived.SizedLaws
import Derived.Carry
import Derived.Test.YtkhmpaooinpfoaaMWeaveColumnsb
import Derived.Test.YtkhmpaooinpfoaaMWeaveColumnsc
import Derived.Test.YtkhmpaooinpfoaaMWeaveColumnsd
import Derived.Test.YtkhmpaooinpfoaaMWeaveColumnse
import Derived.Test.YtkhmpaooinpfoaaMWeaveColumnsf
/- The program's sums of pairs: a tensor times an element on the left, parts by another one, added to one. Own text. -/
namespace Go.Proofs.Ytkhmpaooinpfoaa.Sp
open Go.RowKit Go.Proofs.YtkhmpaooinpfoaaW.PrintWords Go.Proofs.YtkhmpaooinpfoaaW.PrintMore Go.Proofs.Ytkhmpaooinpfoaa.P Go.Proofs.Ytkhmpaooinpfoaa.Ar Go.Proofs.Ytkhmpaooinpfoaa.Tw
set_option linter.unusedVariables false
/-- A list of so many elements. -/
def tabL (n : Nat) (f : Nat → E) : List E := (List.range n).map f
theorem z1X (n : Nat) (f : Nat → E) : (tabL n f).length = n := by simp [tabL]
theorem z2R (n : Nat) (f : Nat → E) (i : Nat) (h : i < n) : (tabL n f).getD i 0 = f i := z2U f 0 n i h
theorem z2B (n : Nat) {f g : Nat → E} (h : ∀ i, i < n → f i = g i) : tabL n f = tabL n g := by
  unfold tabL
  apply List.map_congr_left
  intro i hi
  exact h i (List.mem_range.1 hi)
theorem tabL_self (X : List E) : tabL X.length (fun i => X.getD i 0) = X := by
  apply z4W (z1X _ _)
  intro i hi
  rw [z1X] at hi
  exact z2R _ _ i hi
theorem z6k (n : Nat) (f g : Nat → E) (i : Nat) (hi : i < n) (hg : ∀ k, k < n → k ≠ i → g k = f k) : (tabL n f).set i (g i) = tabL n g := by
  apply z4W
  · rw [List.length_set, z1X, z1X]
  · intro k hk
    rw [List.length_set, z1X] at hk
    rw [z2R n g k hk]
    by_cases c : i = k
    · subst c
      exact z4X (by rw [z1X]; exact hi) _
    · rw [getD_set_ne c, z2R n f k hk, hg k hk (fun e => c e.symm)]
theorem z4r (n : Nat) : List.replicate n (0 : E) = tabL n (fun _ => 0) := by
  apply z4W
  · rw [List.length_replicate, z1X]
  · intro i hi
    rw [List.length_replicate] at hi
    rw [z2R n _ i hi, List.getD_eq_getElem?_getD, List.getElem?_replicate, if_pos hi]; rfl
theorem tabL_all {l : Nat} (hl : l ≤ 7) (n : Nat) (f : Nat → E) (h : ∀ i, i < n → InL l (f i)) : AllS (l : Int) (tabL n f) := by
  intro x hx
  unfold tabL at hx
  obtain ⟨i, hi, rfl⟩ := List.mem_map.1 hx
  exact ⟨by omega, by omega, by rw [Int.toNat_natCast]; exact h i (List.mem_range.1 hi)⟩
theorem ofS_of {l : Nat} (hl : l ≤ 7) {x : E} (h : InL l x) : OfS (l : Int) x := ⟨by omega, by omega, by rw [Int.toNat_natCast]; exact h⟩
theorem inL_of {l : Nat} {x : E} (h : OfS (l : Int) x) : InL l x := by have := h.2.2; rwa [Int.toNat_natCast] at this
/-- One product's bits, each with y, added to what there is. -/
def bitAdd (f : Nat → E) (z y : E) (i k : Nat) : E := f k + pick (decide (k < i) && hasB z k) y
theorem z5W (f : Nat → E) (z y : E) (k : Nat) : bitAdd f z y 0 k = f k := by
  unfold bitAdd
  rw [decide_eq_false (Nat.not_lt_zero k), Bool.false_and, z1r, add_zero]
theorem z5o (f : Nat → E) (z y : E) (i : Nat) : bitAdd f z y i i = f i := by
  unfold bitAdd
  rw [decide_eq_false (Nat.lt_irrefl i), Bool.false_and, z1r, add_zero]
theorem z41 (f : Nat → E) (z y : E) (i k : Nat) (h : k ≠ i) : bitAdd f z y (i + 1) k = bitAdd f z y i k := by
  unfold bitAdd
  have : decide (k < i + 1) = decide (k < i) := by rw [decide_eq_decide]; omega
  rw [this]
theorem z4z (f : Nat → E) (z y : E) (i : Nat) : bitAdd f z y (i + 1) i = f i + pick (hasB z i) y := by
  unfold bitAdd
  rw [decide_eq_true (Nat.lt_succ_self i), Bool.true_and]
theorem z6w (f : Nat → E) (z y : E) (n k : Nat) (h : k < n) : bitAdd f z y n k = f k + pick (hasB z k) y := by
  unfold bitAdd
  rw [decide_eq_true h, Bool.true_and]
theorem z77 {l : Nat} (hl : l ≤ 7) (f : Nat → E) (z y a p : E) (TS : List S30) (m u : Int) {R : List S30}
    (h : Ev (fun q => zx.l0 q (l : Int) ((tabL (2 ^ l) (fun k => f k + pick (hasB z k) y)).map toS) TS m (wrap64 (u + 1)) (hi a) (lo a) (hi p) (lo p)) R) :
    ∀ (d i : Nat), i + d = 2 ^ l → Ev (fun q => zx.l1 q (l : Int) ((tabL (2 ^ l) (bitAdd f z y i)).map toS) TS m u (bitsL z (2 ^ l)) ((2 ^ l : Nat) : Int) (i : Int) (hi a) (lo a) (hi p) (lo p) (hi y) (lo y)) R := by
  have h128 := w128 hl
  have hlb : (bitsL z (2 ^ l)).length = 2 ^ l := by unfold bitsL; simp
  intro d
  induction d with
  | zero =>
    intro i hid
    have : i = 2 ^ l := by omega
    subst this
    refine Ev.step (fun q => by rw [zx.l1]) (Ev.neg (Int.lt_irrefl _) ?_)
    rw [z2B _ (fun k hk => z6w f z y (2 ^ l) k hk)]
    exact h
  | succ d ih =>
    intro i hid
    have hi' : i < 2 ^ l := by omega
    have hih := ih (i + 1) (by omega)
    have hb : rdOf false (bitsL z (2 ^ l)) (i : Int) = hasB z i := by rw [z7B]; exact z2U _ false _ i hi'
    have hg : (tabL (2 ^ l) (bitAdd f z y i)).getD i 0 = f i := by rw [z2R _ _ i hi', z5o]
    have c3 : (i : Int) < (((tabL (2 ^ l) (bitAdd f z y i)).map toS).length : Int) := by rw [List.length_map, z1X]; omega
    refine Ev.step (fun q => by rw [zx.l1]) (Ev.pos (by omega) (Ev.pos (Int.natCast_nonneg _) (Ev.pos (by rw [hlb]; omega) ?_)))
    simp only [hb, z1L hi' (show 2 ^ l ≤ 4611686018427387904 by omega)]
    cases c : hasB z i with
    | true =>
      refine Ev.pos rfl (Ev.pos c3 ?_)
      simp only [rdS, hg, z4H, z4I]
      refine Ev.bnd0 (Add_eq _ _) ?_
      have e : ((tabL (2 ^ l) (bitAdd f z y i)).map toS).set (i : Int).toNat (⟨hi (f i + y), lo (f i + y)⟩ : S30) = (tabL (2 ^ l) (bitAdd f z y (i + 1))).map toS := by
        rw [Int.toNat_natCast, toS_mk, map_set]
        have hn := z4z f z y i
        rw [c, z1J] at hn
        rw [← hn, z6k _ _ _ i hi' (fun k _ hne => z41 f z y i k hne)]
      rw [e]; exact hih
    | false =>
      refine Ev.neg Bool.false_ne_true ?_
      have e : tabL (2 ^ l) (bitAdd f z y (i + 1)) = tabL (2 ^ l) (bitAdd f z y i) := by
        apply z2B
        intro k _
        by_cases ck : k = i
        · subst ck; rw [z4z, c, z1r, add_zero, z5o]
        · exact z41 f z y i k ck
      rw [← e]; exact hih
theorem z76 {l : Nat} (hl : l ≤ 7) (T : List E) (a p : E) (hT : AllS (l : Int) T) (hTl : T.length ≤ 2 ^ l) (ha : InL l a) (hp : InL l p) (f : Nat → E) :
    ∀ (d u : Nat), u + d = T.length → Ev (fun q => zx.l0 q (l : Int) ((tabL (2 ^ l) (fun k => f k + actT u (fun i => T.getD i 0) a p k)).map toS) (T.map toS) (T.length : Int) (u : Int) (hi a) (lo a) (hi p) (lo p))
      ((tabL (2 ^ l) (fun k => f k + actT T.length (fun i => T.getD i 0) a p k)).map toS) := by
  have h128 := w128 hl
  intro d
  induction d with
  | zero =>
    intro u hu
    have : u = T.length := by omega
    subst this
    exact Ev.step (fun q => by rw [zx.l0]) (Ev.neg (Int.lt_irrefl _) (Ev.ret _))
  | succ d ih =>
    intro u hu
    have hu' : u < T.length := by omega
    have hih := ih (u + 1) (by omega)
    have hw := z1L hu' (show T.length ≤ 4611686018427387904 by omega)
    have hs : ∀ k, actT (u + 1) (fun i => T.getD i 0) a p k = actT u (fun i => T.getD i 0) a p k + pick (hasB (bitE u * a) k) (T.getD u 0 * p) := fun k => by
      unfold actT; rw [sumN]
    have hf : (fun k => f k + actT (u + 1) (fun i => T.getD i 0) a p k) = fun k => (f k + actT u (fun i => T.getD i 0) a p k) + pick (hasB (bitE u * a) k) (T.getD u 0 * p) := by
      funext k; rw [hs, add_assoc]
    rw [hf] at hih
    refine Ev.step (fun q => by rw [zx.l0]) (Ev.pos (by omega) (Ev.pos (Int.natCast_nonneg _) (Ev.pos (by rw [List.length_map]; omega) ?_)))
    simp only [rdS, z4H, z4I]
    refine Ev.bnd (z6N hl (z2N hT u) hp) ?_
    simp only [eq_none]
    by_cases c : T.getD u 0 * p = 0
    · refine Ev.pos (decide_eq_true c) ?_
      rw [hw]
      have e : (fun k => (f k + actT u (fun i => T.getD i 0) a p k) + pick (hasB (bitE u * a) k) (T.getD u 0 * p)) = fun k => f k + actT u (fun i => T.getD i 0) a p k := by
        funext k; rw [c, z5C, add_zero]
      rw [e] at hih
      exact hih
    · refine Ev.neg (by rw [decide_eq_false c]; exact Bool.false_ne_true) ?_
      refine Ev.bnd (z4j u (by omega)) ?_
      have hbe := bitE_in hl (show u < 2 ^ l by omega)
      refine Ev.bnd (z6N hl hbe ha) ?_
      refine Ev.bnd (z3I hl (bitE u * a) (ofS_of hl (z45 hl hbe ha))) ?_
      have hlb : (bitsL (bitE u * a) (2 ^ l)).length = 2 ^ l := by unfold bitsL; simp
      rw [hlb]
      have e0 : tabL (2 ^ l) (fun k => f k + actT u (fun i => T.getD i 0) a p k) = tabL (2 ^ l) (bitAdd (fun k => f k + actT u (fun i => T.getD i 0) a p k) (bitE u * a) (T.getD u 0 * p) 0) :=
        z2B _ (fun k _ => (z5W (fun k => f k + actT u (fun i => T.getD i 0) a p k) (bitE u * a) (T.getD u 0 * p) k).symm)
      rw [e0]
      refine z77 hl (fun k => f k + actT u (fun i => T.getD i 0) a p k) (bitE u * a) (T.getD u 0 * p) a p _ _ _ ?_ (2 ^ l) 0 (Nat.zero_add _)
      rw [hw]
      exact hih
theorem byLeft_ev {l : Nat} (hl : l ≤ 7) (f : Nat → E) (T : List E) (a p : E) (hT : AllS (l : Int) T) (hTl : T.length ≤ 2 ^ l) (ha : InL l a) (hp : InL l p) :
    Ev (fun q => zx.f q (l : Int) ((tabL (2 ^ l) f).map toS) (T.map toS) (hi a) (lo a) (hi p) (lo p)) ((tabL (2 ^ l) (fun k => f k + actT T.length (fun i => T.getD i 0) a p k)).map toS) := by
  unfold zx.f
  rw [List.length_map]
  have := z76 hl T a p hT hTl ha hp f T.length 0 (Nat.zero_add _)
  have e : tabL (2 ^ l) (fun k => f k + actT 0 (fun i => T.getD i 0) a p k) = tabL (2 ^ l) f := z2B _ (fun k _ => by
    show f k + sumN _ 0 = f k
    rw [sumN, add_zero])
  rw [e] at this
  exact this
end Go.Proofs.Ytkhmpaooinpfoaa.Sp
namespace Go.Proofs.Ytkhmpaooinpfoaa.P
open Go.RowKit Go.Proofs.YtkhmpaooinpfoaaW.PrintWords Go.Proofs.YtkhmpaooinpfoaaW.PrintLast Go.Proofs.YtkhmpaooinpfoaaW.PrintMore
attribute [local go_sem] z17 z19 z1j z1k zZ z10 z18 z1a   -- for this text's walks alone
set_option linter.unusedVariables false
set_option linter.unusedSimpArgs false
set_option maxHeartbeats 800000 in
set_option maxRecDepth 100000 in
theorem zN.clo (k : Nat) (a0 : Int) (x : S30) (g : Nat) (r : Bool) (w : World) (hg : w.heap[g]? = some (.cells #[.int .i64 a0] 3 (0,0))) (h : zP.f k a0 x.f0 x.f1 = some r) :
 Calls Try.prog 126 #[.agg #[.int .u64 x.f0,.int .u64 x.f1],.pointer (some ⟨g,0,none⟩)] w fun e w'=>e = .returned (.bool (!r)) ∧ Below w.heap.size w w':=by
 have hu30:=Try.underlying30
 have HB:=z2.mk (Below.refl w.heap.size w)
 have HG:=z2.mk hg
 have A8:=z2.mk h
 clear hg h
 go_enter Try.func126,Try.ntmps126
 go_wp2_with (first
  | ((with_reducible refine zO (N:=2) rfl ?_);refine zM ?hg (N:=2) ?hd (cs:=#[.int .u64 x.f0,.int .u64 x.f1]) (t:=30) ?hr ?_;(case hd=>rfl);(case hg=>rfl);(case hr=>first|(go_simp;done)|(go_simp;rfl));intro gb hgb w1_ hbox hb;have n0_:=z2.mk (za HB.out hb);have hG1:=ze (g:=g) (o:=.cells #[.int .i64 a0] 3 (0,0)) HG.out hb;have hc0 : w1_.cell? ⟨g,0,none⟩ = some (.int .i64 a0):=(z9 hG1 0).trans rfl;have hcx0 : w1_.cell? ⟨gb,0,none⟩ = some (.int .u64 x.f0):=(z9 hbox 0).trans rfl;have hcx1 : w1_.cell? ⟨gb,1,none⟩ = some (.int .u64 x.f1):=(z9 hbox 1).trans rfl;clear HB hG1 hbox hb hgb;have HB:=n0_;clear n0_)
  | ((with_reducible refine zm (f:=81) rfl ?_);refine goesL_ (some 6) rfl rfl Try.func81 (by kernel_rfl) rfl #[.int .i64 a0,.agg #[.int .u64 x.f0,.int .u64 x.f1]] rfl (by (try simp only [List.map_toArray,List.map_cons,List.map_nil]);first|done|rfl) ?_;(with_reducible refine (zP.calls k a0 x.f0 x.f1 r _ A8.out).mono ?_);rintro e w2_ ⟨rfl,hb2⟩;refine ⟨_,rfl,?_⟩;have n0_:=z2.mk (za HB.out hb2);clear HB hb2;have HB:=n0_;clear n0_))
 go_ret
 exact ⟨rfl,HB.out⟩
def zN.all (k : Nat) (a0 : Int) : List S30 → Option Bool
 | []=>some true
 | x :: xs=>(zP.f k a0 x.f0 x.f1).bind fun b=>if b = true then zN.all k a0 xs else some false
theorem zN.z3g (a0 : Int) : ∀ (l : List S30) (k : Nat),LeO (zN.all k a0 l) (zN.all (k + 1) a0 l)
 | [],k=>LeO.refl _
 | x :: xs,k=>LeO.bind (zP.mono a0 x.f0 x.f1 k) (fun b=>LeO.ite (zN.z3g a0 xs k) (LeO.refl _))
theorem zN.z3M (k : Nat) (a0 : Int) (l : List S30) (i : Nat) (h : i < l.length) : zN.all k a0 (l.drop i) = (zP.f k a0 (zq l (i : Int)).f0 (zq l (i : Int)).f1).bind fun b=>if b = true then zN.all k a0 (l.drop (i + 1)) else some false:=by
 rw [List.drop_eq_getElem_cons h]
 have e : zq l (i : Int) = l[i]:=by unfold zq;rw [Int.toNat_natCast,List.getD_eq_getElem?_getD,List.getElem?_eq_getElem h];rfl
 rw [e];rfl
set_option maxHeartbeats 800000 in
set_option maxRecDepth 100000 in
theorem zN.idx_0 (k : Nat) (a0 : Int) (A_ : Option Addr) (c : Nat) (l : List S30) (g : Nat) (r : Bool) (w : World) (hr : Kd.C k30 w A_ l.length l) (hg : w.heap[g]? = some (.cells #[.int .i64 a0] 3 (0,0))) (h : zN.all k a0 l = some r) :
 Calls Try.prog 142 #[.slice A_ l.length c,.func (.func 126) #[] #[.pointer (some ⟨g,0,none⟩)]] w fun e w'=>(∃ i : Int,e = .returned (.int .i64 i) ∧ decide (i ≥ 0) = !r) ∧ Below w.heap.size w w':=by
 have hu30:=Try.underlying30
 have HB:=z2.mk (Below.refl w.heap.size w)
 have HG:=z2.mk hg
 have HR:=z2.mk hr
 have HA:=z2.mk h
 have HM:=z2.mk (Kd.z6H hr)
 clear hg h hr
 go_enter Try.func142,Try.ntmps142
 go_wp2
 go_loopg [8] l.length (fun kq v8 w'=>∃ (i : Nat),v8 = .int .i64 i ∧ z2 (i + kq = l.length) ∧ z2 (zN.all k a0 (l.drop i) = some r) ∧ z2 (w'.heap[g]? = some (.cells #[.int .i64 a0] 3 (0,0))) ∧ z2 (Below w.heap.size w w'))
 case atStart=>exact ⟨0,rfl,⟨by omega⟩,HA,HG,HB⟩
 case round =>
  obtain ⟨i,rfl,HK,HAi,HGi,HBi⟩:=hrel
  clear HG HB HA
  by_cases hlt : i < l.length
  rotate_left
  · have p0 : decide (i < l.length) = false:=decide_eq_false hlt
    have p1 : decide ((i : Int) < (l.length : Int)) = false:=decide_eq_false (by omega)
    have hr : r = true:=by
     have h1:=HAi.out
     rw [List.drop_eq_nil_of_le (by omega)] at h1
     exact (Option.some.inj h1).symm
    clear hlt HAi
    subst hr
    go_wp2
    go_ret
    exact ⟨⟨-1,rfl,by decide⟩,HBi.out⟩
  have hd:=zN.z3M k a0 l i hlt
  have e1:=HAi.out
  rw [hd] at e1
  obtain ⟨b,hb,e2⟩:=Option.bind_eq_some_iff.mp e1
  clear e1 hd
  have HE:=z2.mk e2
  have HF:=z2.mk hb
  clear e2 hb
  obtain ⟨ad,e205,hx0,hx1⟩:=z2o HR.out (i : Int) (by omega) (by omega)
  cases e205
  rw [Int.toNat_natCast] at hx0 hx1
  replace hx0:=(HBi.out.cell (World.block_lt_of_cell? w _ hx0)).trans hx0
  replace hx1:=(HBi.out.cell (World.block_lt_of_cell? w _ hx1)).trans hx1
  have p0 : decide (i < l.length) = true:=decide_eq_true hlt
  have p1 : decide ((i : Int) < (l.length : Int)) = true:=decide_eq_true (by omega)
  have p2 : (0 ≤ (i : Int)) = True:=eq_true (by omega)
  have p3 : ((i : Int) < (l.length : Int)) = True:=eq_true (by omega)
  clear hlt
  go_wp2_with fail
  refine (zN.clo k a0 (zq l (i : Int)) g b _ HGi.out HF.out).mono ?_
  rintro e w1 ⟨rfl,hb1⟩
  have n0_:=z2.mk (za HBi.out hb1)
  have n1_:=z2.mk (ze (g:=g) (o:=.cells #[.int .i64 a0] 3 (0,0)) HGi.out hb1)
  clear HBi HGi hb1 hx0 hx1
  cases b with
  | true =>
   rw [if_pos rfl] at HE
   simp only [Bool.not_true]
   go_wp2
   have hi : wrap64 ((i : Int) + 1) = ((i + 1 : Nat) : Int):=by
    have:=HM.out;have:=HK.out;have h9:=of_decide_eq_true p0;unfold wrap64;omega
   go_roundg (l.length - i - 1)
   case measure=>have:=HK.out;have h9:=of_decide_eq_true p0;omega
   case rel=>exact ⟨i + 1,congrArg (Value.int .i64) hi,⟨by have:=HK.out;have h9:=of_decide_eq_true p0;omega⟩,HE,n1_,n0_⟩
  | false =>
   have hr : r = false:=by
    have:=HE.out
    simp at this
    exact this
   subst hr
   simp only [Bool.not_false]
   go_wp2
   go_ret
   exact ⟨⟨(i : Int),rfl,by simp⟩,n0_.out⟩
set_option maxHeartbeats 800000 in
set_option maxRecDepth 100000 in
theorem zN.cont_0 (k : Nat) (a0 : Int) (A_ : Option Addr) (c : Nat) (l : List S30) (g : Nat) (r : Bool) (w : World) (hr : Kd.C k30 w A_ l.length l) (hg : w.heap[g]? = some (.cells #[.int .i64 a0] 3 (0,0))) (h : zN.all k a0 l = some r) :
 Calls Try.prog 127 #[.slice A_ l.length c,.func (.func 126) #[] #[.pointer (some ⟨g,0,none⟩)]] w fun e w'=>e = .returned (.bool (!r)) ∧ Below w.heap.size w w':=by
 have HB:=z2.mk (Below.refl w.heap.size w)
 have HG:=z2.mk hg
 have HR:=z2.mk hr
 have HA:=z2.mk h
 clear hg h hr
 go_enter Try.func127,Try.ntmps127
 go_wp2_with fail
 refine (zN.idx_0 k a0 A_ c l g r _ HR.out HG.out HA.out).mono ?_
 rintro e w1 ⟨⟨i,rfl,hi⟩,hb1⟩
 have hb:=z2.mk hb1
 have hj:=z2.mk hi
 clear hb1 hi
 go_wp2
 go_ret
 exact ⟨by rw [← hj.out];rfl,hb.out⟩
set_option maxHeartbeats 800000 in
set_option maxRecDepth 100000 in
theorem zN.idx_1 (k : Nat) (a0 : Int) (A_ : Option Addr) (c : Nat) (l : List S30) (g : Nat) (r : Bool) (w : World) (hr : Kd.C k30 w A_ l.length l) (hg : w.heap[g]? = some (.cells #[.int .i64 a0] 3 (0,0))) (h : zN.all k a0 l = some r) :
 Calls Try.prog 135 #[.slice A_ l.length c,.func (.func 126) #[] #[.pointer (some ⟨g,0,none⟩)]] w fun e w'=>(∃ i : Int,e = .returned (.int .i64 i) ∧ decide (i ≥ 0) = !r) ∧ Below w.heap.size w w':=by
 have hu30:=Try.underlying30
 have HB:=z2.mk (Below.refl w.heap.size w)
 have HG:=z2.mk hg
 have HR:=z2.mk hr
 have HA:=z2.mk h
 have HM:=z2.mk (Kd.z6H hr)
 clear hg h hr
 go_enter Try.func135,Try.ntmps135
 go_wp2
 go_loopg [8] l.length (fun kq v8 w'=>∃ (i : Nat),v8 = .int .i64 i ∧ z2 (i + kq = l.length) ∧ z2 (zN.all k a0 (l.drop i) = some r) ∧ z2 (w'.heap[g]? = some (.cells #[.int .i64 a0] 3 (0,0))) ∧ z2 (Below w.heap.size w w'))
 case atStart=>exact ⟨0,rfl,⟨by omega⟩,HA,HG,HB⟩
 case round =>
  obtain ⟨i,rfl,HK,HAi,HGi,HBi⟩:=hrel
  clear HG HB HA
  by_cases hlt : i < l.length
  rotate_left
  · have p0 : decide (i < l.length) = false:=decide_eq_false hlt
    have p1 : decide ((i : Int) < (l.length : Int)) = false:=decide_eq_false (by omega)
    have hr : r = true:=by
     have h1:=HAi.out
     rw [List.drop_eq_nil_of_le (by omega)] at h1
     exact (Option.some.inj h1).symm
    clear hlt HAi
    subst hr
    go_wp2
    go_ret
    exact ⟨⟨-1,rfl,by decide⟩,HBi.out⟩
  have hd:=zN.z3M k a0 l i hlt
  have e1:=HAi.out
  rw [hd] at e1
  obtain ⟨b,hb,e2⟩:=Option.bind_eq_some_iff.mp e1
  clear e1 hd
  have HE:=z2.mk e2
  have HF:=z2.mk hb
  clear e2 hb
  obtain ⟨ad,e205,hx0,hx1⟩:=z2o HR.out (i : Int) (by omega) (by omega)
  cases e205
  rw [Int.toNat_natCast] at hx0 hx1
  replace hx0:=(HBi.out.cell (World.block_lt_of_cell? w _ hx0)).trans hx0
  replace hx1:=(HBi.out.cell (World.block_lt_of_cell? w _ hx1)).trans hx1
  have p0 : decide (i < l.length) = true:=decide_eq_true hlt
  have p1 : decide ((i : Int) < (l.length : Int)) = true:=decide_eq_true (by omega)
  have p2 : (0 ≤ (i : Int)) = True:=eq_true (by omega)
  have p3 : ((i : Int) < (l.length : Int)) = True:=eq_true (by omega)
  clear hlt
  go_wp2_with fail
  refine (zN.clo k a0 (zq l (i : Int)) g b _ HGi.out HF.out).mono ?_
  rintro e w1 ⟨rfl,hb1⟩
  have n0_:=z2.mk (za HBi.out hb1)
  have n1_:=z2.mk (ze (g:=g) (o:=.cells #[.int .i64 a0] 3 (0,0)) HGi.out hb1)
  clear HBi HGi hb1 hx0 hx1
  cases b with
  | true =>
   rw [if_pos rfl] at HE
   simp only [Bool.not_true]
   go_wp2
   have hi : wrap64 ((i : Int) + 1) = ((i + 1 : Nat) : Int):=by
    have:=HM.out;have:=HK.out;have h9:=of_decide_eq_true p0;unfold wrap64;omega
   go_roundg (l.length - i - 1)
   case measure=>have:=HK.out;have h9:=of_decide_eq_true p0;omega
   case rel=>exact ⟨i + 1,congrArg (Value.int .i64) hi,⟨by have:=HK.out;have h9:=of_decide_eq_true p0;omega⟩,HE,n1_,n0_⟩
  | false =>
   have hr : r = false:=by
    have:=HE.out
    simp at this
    exact this
   subst hr
   simp only [Bool.not_false]
   go_wp2
   go_ret
   exact ⟨⟨(i : Int),rfl,by simp⟩,n0_.out⟩
set_option maxHeartbeats 800000 in
set_option maxRecDepth 100000 in
theorem zN.cont_1 (k : Nat) (a0 : Int) (A_ : Option Addr) (c : Nat) (l : List S30) (g : Nat) (r : Bool) (w : World) (hr : Kd.C k30 w A_ l.length l) (hg : w.heap[g]? = some (.cells #[.int .i64 a0] 3 (0,0))) (h : zN.all k a0 l = some r) :
 Calls Try.prog 105 #[.slice A_ l.length c,.func (.func 126) #[] #[.pointer (some ⟨g,0,none⟩)]] w fun e w'=>e = .returned (.bool (!r)) ∧ Below w.heap.size w w':=by
 have HB:=z2.mk (Below.refl w.heap.size w)
 have HG:=z2.mk hg
 have HR:=z2.mk hr
 have HA:=z2.mk h
 clear hg h hr
 go_enter Try.func105,Try.ntmps105
 go_wp2_with fail
 refine (zN.idx_1 k a0 A_ c l g r _ HR.out HG.out HA.out).mono ?_
 rintro e w1 ⟨⟨i,rfl,hi⟩,hb1⟩
 have hb:=z2.mk hb1
 have hj:=z2.mk hi
 clear hb1 hi
 go_wp2
 go_ret
 exact ⟨by rw [← hj.out];rfl,hb.out⟩
def zN.alls (k : Nat) (a0 : Int) : List (List S30) → Option Bool
 | []=>some true
 | x :: xs=>(zN.all k a0 x).bind fun b=>if b = true then zN.alls k a0 xs else some false
theorem zN.z5m (a0 : Int) : ∀ (l : List (List S30)) (k : Nat),LeO (zN.alls k a0 l) (zN.alls (k + 1) a0 l)
 | [],k=>LeO.refl _
 | x :: xs,k=>LeO.bind (zN.z3g a0 x k) (fun b=>LeO.ite (zN.z5m a0 xs k) (LeO.refl _))
theorem zN.z72 (k : Nat) (a0 : Int) (l : List (List S30)) (i : Nat) (h : i < l.length) : zN.alls k a0 (l.drop i) = (zN.all k a0 (z1g l (i : Int))).bind fun b=>if b = true then zN.alls k a0 (l.drop (i + 1)) else some false:=by
 rw [List.drop_eq_getElem_cons h]
 have e : z1g l (i : Int) = l[i]:=by unfold z1g;rw [Int.toNat_natCast,List.getD_eq_getElem?_getD,List.getElem?_eq_getElem h];rfl
 rw [e];rfl
def zN.lens (s : Int) (l : List (List S30)) : Bool:=l.all fun x=>(x.length : Int) == s
theorem zN.z7m (s : Int) (l : List (List S30)) (i : Nat) (h : i < l.length) : zN.lens s (l.drop i) = (((z1g l (i : Int)).length : Int) == s && zN.lens s (l.drop (i + 1))):=by
 unfold zN.lens
 rw [List.drop_eq_getElem_cons h]
 have e : z1g l (i : Int) = l[i]:=by unfold z1g;rw [Int.toNat_natCast,List.getD_eq_getElem?_getD,List.getElem?_eq_getElem h];rfl
 rw [e];rfl
def zN.f (k : Nat) (a0 : Int) (l1 : List (List S30)) (l2 : List S30) : Option Int :=
 (z1i.f k a0).bind fun s=>if s = 0 then some 1 else if zN.lens s l1 = false then some 6 else (zN.alls k a0 l1).bind fun b=>if b = false then some 5 else (zN.all k a0 l2).bind fun b=>some (if b = true then 0 else 5)
theorem zN.mono : ∀ a0 a1 a2 k,LeO (zN.f k a0 a1 a2) (zN.f (k + 1) a0 a1 a2):=fun a0 l m k =>
 LeO.bind (z1i.mono a0 k) (fun s=>LeO.ite (LeO.refl _) (LeO.ite (LeO.refl _) (LeO.bind (zN.z5m a0 l k) (fun b=>LeO.ite (LeO.refl _) (LeO.bind (zN.z3g a0 m k) (fun b=>LeO.refl _))))))
set_option maxHeartbeats 800000 in
set_option maxRecDepth 100000 in
theorem zN.calls (k : Nat) (a0 : Int) (A1 : Option Addr) (c1 : Nat) (l1 : List (List S30)) (A2 : Option Addr) (c2 : Nat) (l2 : List S30) (r : Int) (w : World) (hr1 : Kd.C (Kd.slice 30 k30) w A1 l1.length l1) (hc1 : l1.length ≤ c1) (hr2 : Kd.C k30 w A2 l2.length l2) (hc2 : l2.length ≤ c2) (h : zN.f k a0 l1 l2 = some r) :
 Calls Try.prog 90 #[.int .i64 a0,.slice A1 l1.length c1,.slice A2 l2.length c2] w fun e w'=>e = .returned (.int .i64 r) ∧ Below w.heap.size w w':=by
 have hmf : ∀ (fn : Fn) (first cap : Array Value) (w : World),(Instr.makeFunc fn first cap).run Try.prog w = .ok (.func fn first cap) w:=fun _ _ _ _=>rfl
 obtain ⟨s,hs,h⟩:=Option.bind_eq_some_iff.mp h
 have HB:=z2.mk (Below.refl w.heap.size w)
 have HR1:=z2.mk hr1
 have HR2:=z2.mk hr2
 have HM:=z2.mk (Kd.z6H hr1)
 have HS:=z2.mk hs
 have HA:=z2.mk h
 clear h hr1 hr2 hs
 by_cases p0 : s = 0
 · have e1:=HA.out
   rw [if_pos p0] at e1
   have q0 : (s == 0) = true:=beq_iff_eq.mpr p0
   have q1 : decide (s = 0) = true:=decide_eq_true p0
   obtain rfl:=Option.some.inj e1
   clear p0 e1 HA
   go_enter Try.func90,Try.ntmps90
   go_wp2_with (first
    | ((with_reducible refine zO (N:=3) rfl ?_);refine zM ?hg (N:=3) ?hd (cs:=#[.int .i64 a0]) (t:=3) ?hr ?_;(case hd=>rfl);(case hg=>rfl);(case hr=>first|(go_simp;done)|(go_simp;rfl));intro gb hgb w1_ hbox hb;have n0_:=z2.mk (za HB.out hb);have n1_:=z2.mk hbox;have hc0 : w1_.cell? ⟨gb,0,none⟩ = some (.int .i64 a0):=(z9 hbox 0).trans rfl;clear HB hbox hb hgb;have HB:=n0_;have HG:=n1_;clear n0_ n1_)
    | ((with_reducible refine zm (f:=92) rfl ?_);refine goesL_ (some 13) rfl rfl Try.func92 (by kernel_rfl) rfl #[.int .i64 a0] rfl (by (try simp only [List.map_toArray,List.map_cons,List.map_nil]);first|done|rfl) ?_;(with_reducible refine (z1i.calls k a0 s _ HS.out).mono ?_);rintro e w2_ ⟨rfl,hd2⟩;refine ⟨_,rfl,?_⟩;have hb2:=hd2.below;(try clear hc0);have n0_:=z2.mk (za HB.out hb2);have n1_:=z2.mk (ze (g:=gb) (o:=(.cells #[.int .i64 a0] 3 (0,0))) HG.out hb2);have hc0 : w2_.cell? ⟨gb,0,none⟩ = some (.int .i64 a0):=(z9 n1_.out 0).trans rfl;clear HB HG hb2;have HB:=n0_;have HG:=n1_;clear n0_ n1_))
   go_ret
   exact ⟨rfl,HB.out⟩
 have e1:=HA.out
 rw [if_neg p0] at e1
 have q0 : (s == 0) = false:=beq_eq_false_iff_ne.mpr p0
 have q1 : decide (s = 0) = false:=decide_eq_false p0
 have H1:=z2.mk e1
 clear p0 e1 HA
 go_enter Try.func90,Try.ntmps90
 go_wp2_with (first
  | ((with_reducible refine zO (N:=3) rfl ?_);refine zM ?hg (N:=3) ?hd (cs:=#[.int .i64 a0]) (t:=3) ?hr ?_;(case hd=>rfl);(case hg=>rfl);(case hr=>first|(go_simp;done)|(go_simp;rfl));intro gb hgb w1_ hbox hb;have n0_:=z2.mk (za HB.out hb);have n1_:=z2.mk hbox;have hc0 : w1_.cell? ⟨gb,0,none⟩ = some (.int .i64 a0):=(z9 hbox 0).trans rfl;clear HB hbox hb hgb;have HB:=n0_;have HG:=n1_;clear n0_ n1_)
  | ((with_reducible refine zm (f:=92) rfl ?_);refine goesL_ (some 13) rfl rfl Try.func92 (by kernel_rfl) rfl #[.int .i64 a0] rfl (by (try simp only [List.map_toArray,List.map_cons,List.map_nil]);first|done|rfl) ?_;(with_reducible refine (z1i.calls k a0 s _ HS.out).mono ?_);rintro e w2_ ⟨rfl,hd2⟩;refine ⟨_,rfl,?_⟩;have hb2:=hd2.below;(try clear hc0);have n0_:=z2.mk (za HB.out hb2);have n1_:=z2.mk (ze (g:=gb) (o:=(.cells #[.int .i64 a0] 3 (0,0))) HG.out hb2);have hc0 : w2_.cell? ⟨gb,0,none⟩ = some (.int .i64 a0):=(z9 n1_.out 0).trans rfl;clear HB HG hb2;have HB:=n0_;have HG:=n1_;clear n0_ n1_))
 go_loopg [17] l1.length (fun kq v8 w'=>∃ (i : Nat),v8 = .int .i64 i ∧ z2 (i + kq = l1.length) ∧ z2 (zN.lens s (l1.drop i) = zN.lens s l1) ∧ z2 (w'.heap[gb]? = some (.cells #[.int .i64 a0] 3 (0,0))) ∧ z2 (Below w.heap.size w w'))
 case atStart=>exact ⟨0,rfl,⟨by omega⟩,⟨rfl⟩,HG,HB⟩
 case round =>
  obtain ⟨i,rfl,HK,HAi,HGi,HBi⟩:=hrel
  clear HG HB
  (try clear hc0)
  by_cases hlt : i < l1.length
  · have hd:=zN.z7m s l1 i hlt
    rw [HAi.out] at hd
    obtain ⟨ad,A0,c0,e205,hx0,hl0,g0⟩:=z3s (Kd.z1h HR1.out HBi.out) (i : Int) (by omega) (by omega)
    cases e205
    rw [Int.toNat_natCast] at hx0
    clear hl0 g0
    have hc0:=(z9 HGi.out 0).trans rfl
    have p0 : decide (i < l1.length) = true:=decide_eq_true hlt
    have p1 : decide ((i : Int) < (l1.length : Int)) = true:=decide_eq_true (by omega)
    have p2 : (0 ≤ (i : Int)) = True:=eq_true (by omega)
    have p3 : ((i : Int) < (l1.length : Int)) = True:=eq_true (by omega)
    clear hlt
    cases hq : (((z1g l1 (i : Int)).length : Int) == s) with
    | true =>
     have hq1 : (((z1g l1 (i : Int)).length : Int) != s) = false:=by unfold bne;rw [hq];rfl
     rw [hq,Bool.true_and] at hd
     have HD:=z2.mk hd.symm
     clear hd HAi
     go_wp2_with (first
      | ((with_reducible refine zm (f:=92) rfl ?_);refine goesL_ (some 24) rfl rfl Try.func92 (by kernel_rfl) rfl #[.int .i64 a0] rfl (by (try simp only [List.map_toArray,List.map_cons,List.map_nil]);first|done|rfl) ?_;(with_reducible refine (z1i.calls k a0 s _ HS.out).mono ?_);rintro e w2_ ⟨rfl,hd2⟩;refine ⟨_,rfl,?_⟩;have hb2:=hd2.below;(try clear hc0);have n0_:=z2.mk (za HBi.out hb2);have n1_:=z2.mk (ze (g:=gb) (o:=(.cells #[.int .i64 a0] 3 (0,0))) HGi.out hb2);have hc0 : w2_.cell? ⟨gb,0,none⟩ = some (.int .i64 a0):=(z9 n1_.out 0).trans rfl;clear HBi HGi hb2;have HB:=n0_;have HG:=n1_;clear n0_ n1_))
     have hi : wrap64 ((i : Int) + 1) = ((i + 1 : Nat) : Int):=by
      have:=HM.out;have:=HK.out;have h9:=of_decide_eq_true p0;unfold wrap64;omega
     go_roundg (l1.length - i - 1)
     case measure=>have:=HK.out;have h9:=of_decide_eq_true p0;omega
     case rel=>exact ⟨i + 1,congrArg (Value.int .i64) hi,⟨by have:=HK.out;have h9:=of_decide_eq_true p0;omega⟩,HD,HG,HB⟩
    | false =>
     have hq1 : (((z1g l1 (i : Int)).length : Int) != s) = true:=by unfold bne;rw [hq];rfl
     rw [hq,Bool.false_and] at hd
     have e2:=H1.out
     rw [if_pos hd] at e2
     obtain rfl:=Option.some.inj e2
     clear hd HAi e2 H1
     go_wp2_with (first
      | ((with_reducible refine zm (f:=92) rfl ?_);refine goesL_ (some 24) rfl rfl Try.func92 (by kernel_rfl) rfl #[.int .i64 a0] rfl (by (try simp only [List.map_toArray,List.map_cons,List.map_nil]);first|done|rfl) ?_;(with_reducible refine (z1i.calls k a0 s _ HS.out).mono ?_);rintro e w2_ ⟨rfl,hd2⟩;refine ⟨_,rfl,?_⟩;have hb2:=hd2.below;(try clear hc0);have n0_:=z2.mk (za HBi.out hb2);have n1_:=z2.mk (ze (g:=gb) (o:=(.cells #[.int .i64 a0] 3 (0,0))) HGi.out hb2);have hc0 : w2_.cell? ⟨gb,0,none⟩ = some (.int .i64 a0):=(z9 n1_.out 0).trans rfl;clear HBi HGi hb2;have HB:=n0_;have HG:=n1_;clear n0_ n1_))
     go_ret
     exact ⟨rfl,HB.out⟩
  have p0 : decide (i < l1.length) = false:=decide_eq_false hlt
  have p1 : decide ((i : Int) < (l1.length : Int)) = false:=decide_eq_false (by omega)
  have hd:=HAi.out
  rw [List.drop_eq_nil_of_le (by omega)] at hd
  have e2:=H1.out
  rw [if_neg (by rw [← hd];exact Bool.noConfusion)] at e2
  obtain ⟨bb,hb0,e3⟩:=Option.bind_eq_some_iff.mp e2
  have HC:=z2.mk hb0
  have H2:=z2.mk e3
  clear hlt HAi hd e2 e3 hb0 H1
  have HG:=HGi
  have HB:=HBi
  clear HGi HBi
  go_wp2
  go_loopg [30] l1.length (fun kq v8 w'=>∃ (i : Nat),v8 = .int .i64 i ∧ z2 (i + kq = l1.length) ∧ z2 (zN.alls k a0 (l1.drop i) = some bb) ∧ z2 (w'.heap[gb]? = some (.cells #[.int .i64 a0] 3 (0,0))) ∧ z2 (Below w.heap.size w w'))
  case atStart=>exact ⟨0,rfl,⟨by omega⟩,HC,HG,HB⟩
  case round =>
   obtain ⟨j,rfl,HKj,HAj,HGj,HBj⟩:=hrel
   clear HG HB
   clear p0 p1
   by_cases hlt : j < l1.length
   rotate_left
   · have p0 : decide (j < l1.length) = false:=decide_eq_false hlt
     have p1 : decide ((j : Int) < (l1.length : Int)) = false:=decide_eq_false (by omega)
     have h1:=HAj.out
     rw [List.drop_eq_nil_of_le (by omega)] at h1
     obtain rfl : true = bb:=Option.some.inj h1
     have e2:=H2.out
     rw [if_neg Bool.noConfusion] at e2
     obtain ⟨b,hb,e3⟩:=Option.bind_eq_some_iff.mp e2
     have HF:=z2.mk hb
     have hr : r = if b = true then 0 else 5:=(Option.some.inj e3).symm
     clear hlt HAj h1 e2 H2 hb e3
     cases b with
     | true =>
      subst hr
      go_wp2_with (first
       | ((with_reducible refine zm (f:=105) rfl ?_);refine goesL_ (some 40) rfl rfl Try.func105 (by kernel_rfl) rfl #[.slice A2 l2.length c2,.func (.func 126) #[] #[.pointer (some ⟨gb,0,none⟩)]] rfl (by (try simp only [List.map_toArray,List.map_cons,List.map_nil]);first|done|rfl) ?_;(with_reducible refine (zN.cont_1 k a0 _ _ l2 gb _ _ (Kd.z1h HR2.out HBj.out) HGj.out HF.out).mono ?_);rintro e w2_ ⟨rfl,hb2⟩;refine ⟨_,rfl,?_⟩;(try clear hc0);have n0_:=z2.mk (za HBj.out hb2);have n1_:=z2.mk (ze (g:=gb) (o:=(.cells #[.int .i64 a0] 3 (0,0))) HGj.out hb2);have hc0 : w2_.cell? ⟨gb,0,none⟩ = some (.int .i64 a0):=(z9 n1_.out 0).trans rfl;clear HBj HGj hb2;have HB:=n0_;have HG:=n1_;clear n0_ n1_))
      go_ret
      exact ⟨rfl,HB.out⟩
     | false =>
      subst hr
      go_wp2_with (first
       | ((with_reducible refine zm (f:=105) rfl ?_);refine goesL_ (some 40) rfl rfl Try.func105 (by kernel_rfl) rfl #[.slice A2 l2.length c2,.func (.func 126) #[] #[.pointer (some ⟨gb,0,none⟩)]] rfl (by (try simp only [List.map_toArray,List.map_cons,List.map_nil]);first|done|rfl) ?_;(with_reducible refine (zN.cont_1 k a0 _ _ l2 gb _ _ (Kd.z1h HR2.out HBj.out) HGj.out HF.out).mono ?_);rintro e w2_ ⟨rfl,hb2⟩;refine ⟨_,rfl,?_⟩;(try clear hc0);have n0_:=z2.mk (za HBj.out hb2);have n1_:=z2.mk (ze (g:=gb) (o:=(.cells #[.int .i64 a0] 3 (0,0))) HGj.out hb2);have hc0 : w2_.cell? ⟨gb,0,none⟩ = some (.int .i64 a0):=(z9 n1_.out 0).trans rfl;clear HBj HGj hb2;have HB:=n0_;have HG:=n1_;clear n0_ n1_))
      go_ret
      exact ⟨rfl,HB.out⟩
   have hd:=zN.z72 k a0 l1 j hlt
   have e1:=HAj.out
   rw [hd] at e1
   obtain ⟨b,hb,e2⟩:=Option.bind_eq_some_iff.mp e1
   clear e1 hd
   have HE:=z2.mk e2
   have HF:=z2.mk hb
   clear e2 hb
   obtain ⟨ad,A0,c0,e205,hx0,hl0,g0⟩:=z3s (Kd.z1h HR1.out HBj.out) (j : Int) (by omega) (by omega)
   cases e205
   rw [Int.toNat_natCast] at hx0
   have G0:=z2.mk g0
   clear hl0 g0
   have p0 : decide (j < l1.length) = true:=decide_eq_true hlt
   have p1 : decide ((j : Int) < (l1.length : Int)) = true:=decide_eq_true (by omega)
   have p2 : (0 ≤ (j : Int)) = True:=eq_true (by omega)
   have p3 : ((j : Int) < (l1.length : Int)) = True:=eq_true (by omega)
   clear hlt
   cases b with
   | true =>
    rw [if_pos rfl] at HE
    go_wp2_with (first
     | ((with_reducible refine zm (f:=127) rfl ?_);refine goesL_ (some 36) rfl rfl Try.func127 (by kernel_rfl) rfl #[.slice A0 (z1g l1 (j : Int)).length c0,.func (.func 126) #[] #[.pointer (some ⟨gb,0,none⟩)]] rfl (by (try simp only [List.map_toArray,List.map_cons,List.map_nil]);first|done|rfl) ?_;(with_reducible refine (zN.cont_0 k a0 _ _ (z1g l1 (j : Int)) gb _ _ G0.out HGj.out HF.out).mono ?_);rintro e w2_ ⟨rfl,hb2⟩;refine ⟨_,rfl,?_⟩;(try clear hc0);have n0_:=z2.mk (za HBj.out hb2);have n1_:=z2.mk (ze (g:=gb) (o:=(.cells #[.int .i64 a0] 3 (0,0))) HGj.out hb2);have hc0 : w2_.cell? ⟨gb,0,none⟩ = some (.int .i64 a0):=(z9 n1_.out 0).trans rfl;clear HBj HGj hb2;have HB:=n0_;have HG:=n1_;clear n0_ n1_))
    have hi : wrap64 ((j : Int) + 1) = ((j + 1 : Nat) : Int):=by
     have:=HM.out;have:=HKj.out;have h9:=of_decide_eq_true p0;unfold wrap64;omega
    go_roundg (l1.length - j - 1)
    case measure=>have:=HKj.out;have h9:=of_decide_eq_true p0;omega
    case rel=>exact ⟨j + 1,congrArg (Value.int .i64) hi,⟨by have:=HKj.out;have h9:=of_decide_eq_true p0;omega⟩,HE,HG,HB⟩
   | false =>
    have hr : bb = false:=by
     have:=HE.out
     simp at this
     exact this
    subst hr
    have e2:=H2.out
    rw [if_pos rfl] at e2
    obtain rfl:=Option.some.inj e2
    clear e2 H2
    go_wp2_with (first
     | ((with_reducible refine zm (f:=127) rfl ?_);refine goesL_ (some 36) rfl rfl Try.func127 (by kernel_rfl) rfl #[.slice A0 (z1g l1 (j : Int)).length c0,.func (.func 126) #[] #[.pointer (some ⟨gb,0,none⟩)]] rfl (by (try simp only [List.map_toArray,List.map_cons,List.map_nil]);first|done|rfl) ?_;(with_reducible refine (zN.cont_0 k a0 _ _ (z1g l1 (j : Int)) gb _ _ G0.out HGj.out HF.out).mono ?_);rintro e w2_ ⟨rfl,hb2⟩;refine ⟨_,rfl,?_⟩;(try clear hc0);have n0_:=z2.mk (za HBj.out hb2);have n1_:=z2.mk (ze (g:=gb) (o:=(.cells #[.int .i64 a0] 3 (0,0))) HGj.out hb2);have hc0 : w2_.cell? ⟨gb,0,none⟩ = some (.int .i64 a0):=(z9 n1_.out 0).trans rfl;clear HBj HGj hb2;have HB:=n0_;have HG:=n1_;clear n0_ n1_))
    go_ret
    exact ⟨rfl,HB.out⟩
end Go.Proofs.Ytkhmpaooinpfoaa.P
/- What hinders tensors and elements. Own text. -/
namespace Go.Proofs.Ytkhmpaooinpfoaa.Sp
open Go.RowKit Go.Proofs.YtkhmpaooinpfoaaW.PrintWords Go.Proofs.YtkhmpaooinpfoaaW.PrintMore Go.Proofs.Ytkhmpaooinpfoaa.P Go.Proofs.Ytkhmpaooinpfoaa.Ar Go.Proofs.Ytkhmpaooinpfoaa.Tw
set_option linter.unusedVariables false
theorem z56 (L : Int) : ∀ (X : List E), Ev (fun k => zN.all k L (X.map toS)) (decide (AllS L X))
  | [] => by refine Ev.ret' ?_; symm; rw [decide_eq_true_eq]; intro x hx; cases hx
  | x :: xs => by
    show Ev (fun k => (zP.f k L (toS x).f0 (toS x).f1).bind fun b => if b = true then zN.all k L (xs.map toS) else some false) _
    refine Ev.bnd (z52 L x) ?_
    have hd : AllS L (x :: xs) ↔ OfS L x ∧ AllS L xs := List.forall_mem_cons
    by_cases c : OfS L x
    · refine Ev.pos (decide_eq_true c) ((z56 L xs).eqn ?_)
      rw [decide_eq_decide, hd]; exact ⟨fun h => ⟨c, h⟩, fun h => h.2⟩
    · refine Ev.neg (by simpa using c) (Ev.ret' ?_)
      symm; rw [decide_eq_false_iff_not, hd]; exact fun h => c h.1
/-- All of all tensors are of the level. -/
def AllT (L : Int) (Ts : List (List E)) : Prop := ∀ t ∈ Ts, AllS L t
instance (L : Int) (Ts : List (List E)) : Decidable (AllT L Ts) := by unfold AllT; infer_instance
def LenT (s : Int) (Ts : List (List E)) : Prop := ∀ t ∈ Ts, (t.length : Int) = s
instance (s : Int) (Ts : List (List E)) : Decidable (LenT s Ts) := by unfold LenT; infer_instance
def rowsS (Ts : List (List E)) : List (List S30) := Ts.map fun t => t.map toS
theorem z5B (L : Int) : ∀ (Ts : List (List E)), Ev (fun k => zN.alls k L (rowsS Ts)) (decide (AllT L Ts))
  | [] => by refine Ev.ret' ?_; symm; rw [decide_eq_true_eq]; intro x hx; cases hx
  | x :: xs => by
    show Ev (fun k => (zN.all k L (x.map toS)).bind fun b => if b = true then zN.alls k L (rowsS xs) else some false) _
    refine Ev.bnd (z56 L x) ?_
    have hd : AllT L (x :: xs) ↔ AllS L x ∧ AllT L xs := List.forall_mem_cons
    by_cases c : AllS L x
    · refine Ev.pos (decide_eq_true c) ((z5B L xs).eqn ?_)
      rw [decide_eq_decide, hd]; exact ⟨fun h => ⟨c, h⟩, fun h => h.2⟩
    · refine Ev.neg (by simpa using c) (Ev.ret' ?_)
      symm; rw [decide_eq_false_iff_not, hd]; exact fun h => c h.1
theorem z7w (s : Int) (Ts : List (List E)) : zN.lens s (rowsS Ts) = decide (LenT s Ts) := by
  unfold zN.lens rowsS
  rw [Bool.eq_iff_iff, List.all_eq_true, decide_eq_true_eq]
  constructor
  · intro h t ht
    have := h (t.map toS) (List.mem_map.2 ⟨t, ht, rfl⟩)
    rw [List.length_map, beq_iff_eq] at this
    exact this
  · intro h x hx
    obtain ⟨t, ht, rfl⟩ := List.mem_map.1 hx
    rw [List.length_map, beq_iff_eq]
    exact h t ht
def paskE (L : Int) (Ts : List (List E)) (M : List E) : Int := if LvS L then (if LenT ((2 ^ L.toNat : Nat) : Int) Ts then (if AllT L Ts ∧ AllS L M then 0 else 5) else 6) else 1
theorem pask_ev (L : Int) (Ts : List (List E)) (M : List E) : Ev (fun k => zN.f k L (rowsS Ts) (M.map toS)) (paskE L Ts M) := by
  unfold zN.f
  by_cases hL : LvS L
  rotate_left
  · have e : paskE L Ts M = 1 := if_neg hL
    rw [e]
    exact Ev.bnd (size_out hL) (Ev.pos rfl (Ev.ret _))
  obtain ⟨l, rfl⟩ := Int.eq_ofNat_of_zero_le hL.1
  have hl : l ≤ 7 := by have := hL.2; omega
  have h0 := Nat.two_pow_pos l
  have e : paskE (l : Int) Ts M = if LenT ((2 ^ l : Nat) : Int) Ts then (if AllT (l : Int) Ts ∧ AllS (l : Int) M then 0 else 5) else 6 := by
    unfold paskE; rw [if_pos hL, Int.toNat_natCast]
  rw [e]
  refine Ev.bnd (z5Y hl) (Ev.neg (by omega) ?_)
  rw [z7w]
  by_cases c : LenT ((2 ^ l : Nat) : Int) Ts
  rotate_left
  · rw [if_neg c]
    exact Ev.pos (decide_eq_false c) (Ev.ret _)
  rw [if_pos c]
  refine Ev.neg (by rw [decide_eq_true c]; exact Bool.noConfusion) (Ev.bnd (z5B (l : Int) Ts) ?_)
  by_cases ct : AllT (l : Int) Ts
  rotate_left
  · rw [if_neg (fun h => ct h.1)]
    exact Ev.pos (decide_eq_false ct) (Ev.ret _)
  refine Ev.neg (by rw [decide_eq_true ct]; exact Bool.noConfusion) (Ev.bnd (z56 (l : Int) M) (Ev.ret' ?_))
  by_cases cm : AllS (l : Int) M
  · rw [if_pos (decide_eq_true cm), if_pos ⟨ct, cm⟩]
  · rw [decide_eq_false cm, if_neg Bool.false_ne_true, if_neg (fun h => cm h.2)]
end Go.Proofs.Ytkhmpaooinpfoaa.Sp
/- Rows of elements: joined, as the document's, sums of products. Own text. -/
namespace Go.Proofs.Ytkhmpaooinpfoaa.Sp
open Go.RowKit Go.Proofs.YtkhmpaooinpfoaaW.PrintWords Go.Proofs.YtkhmpaooinpfoaaW.PrintMore Go.Proofs.Ytkhmpaooinpfoaa.P Go.Proofs.Ytkhmpaooinpfoaa.Ar Go.Proofs.Ytkhmpaooinpfoaa.Tw
set_option linter.unusedVariables false
def rowsR (Ts : List (List E)) : List (List S40) := Ts.map fun t => t.map toR
theorem z1F (Ts : List (List E)) : (rowsS Ts).length = Ts.length := by unfold rowsS; rw [List.length_map]
theorem z1O (Ts : List (List E)) : (rowsR Ts).length = Ts.length := by unfold rowsR; rw [List.length_map]
theorem z43 {α β : Type} (f : α → β) (l : List α) (i : Nat) (d : α) (e : β) (h : f d = e) : (l.map f).getD i e = f (l.getD i d) := by
  rw [List.getD_eq_getElem?_getD, List.getD_eq_getElem?_getD, List.getElem?_map]
  cases l[i]? with
  | none => exact h.symm
  | some x => rfl
theorem rdRS (Ts : List (List E)) (i : Nat) : z1g (rowsS Ts) (i : Int) = (Ts.getD i []).map toS := by
  unfold z1g rowsS; rw [Int.toNat_natCast]; exact z43 _ Ts i [] _ rfl
theorem rdRR (Ts : List (List E)) (i : Nat) : z1W (rowsR Ts) (i : Int) = (Ts.getD i []).map toR := by
  unfold z1W rowsR; rw [Int.toNat_natCast]; exact z43 _ Ts i [] _ rfl
theorem rdRS0 (Ts : List (List E)) : z1g (rowsS Ts) 0 = (Ts.getD 0 []).map toS := rdRS Ts 0
theorem rdRR0 (Ts : List (List E)) : z1W (rowsR Ts) 0 = (Ts.getD 0 []).map toR := rdRR Ts 0
theorem z2h {Ts : List (List E)} {i : Nat} (h : i < Ts.length) : Ts.getD i [] ∈ Ts := by
  rw [List.getD_eq_getElem?_getD, List.getElem?_eq_getElem h]; exact List.getElem_mem h
/-- How long rows are. -/
def wideT (Ts : List (List E)) : Nat := (Ts.getD 0 []).length
def EvenT (Ts : List (List E)) : Prop := ∀ t ∈ Ts, t.length = wideT Ts
instance (Ts : List (List E)) : Decidable (EvenT Ts) := by unfold EvenT; infer_instance
theorem z7d (Ts : List (List E)) : z1c.f (rowsS Ts) = some (decide (EvenT Ts)) := by
  unfold z1c.f
  congr 1
  rw [Bool.eq_iff_iff, List.all_eq_true, decide_eq_true_eq]
  have hq : ∀ t : List E, z1c.q (rowsS Ts) (t.map toS) = true ↔ t.length = wideT Ts := by
    intro t
    unfold z1c.q wideT
    rw [rdRS0, List.length_map, List.length_map, beq_iff_eq]
    exact ⟨fun h => by omega, fun h => by omega⟩
  constructor
  · intro h t ht
    exact (hq t).1 (h _ (List.mem_map.2 ⟨t, ht, rfl⟩))
  · intro h x hx
    obtain ⟨t, ht, rfl⟩ := List.mem_map.1 hx
    exact (hq t).2 (h t ht)
theorem z6E (Ts : List (List E)) (hT : Ts.length ≤ 1000000) : ∀ (d i : Nat), i + d = Ts.length → Ev (fun k => zw.l0 k (rowsR Ts) (i : Int)) (decide (∀ t ∈ Ts.drop i, t.length = wideT Ts)) := by
  intro d
  induction d with
  | zero =>
    intro i hi
    refine Ev.step (fun k => by rw [zw.l0]) (Ev.neg (by rw [z1O]; omega) (Ev.ret' ?_))
    symm; rw [decide_eq_true_eq, List.drop_eq_nil_of_le (by omega)]
    intro t ht; cases ht
  | succ d ih =>
    intro i hi
    have hi' : i < Ts.length := by omega
    have hih := ih (i + 1) (by omega)
    have hd : (∀ t ∈ Ts.drop i, t.length = wideT Ts) ↔ (Ts.getD i []).length = wideT Ts ∧ ∀ t ∈ Ts.drop (i + 1), t.length = wideT Ts := by
      rw [List.drop_eq_getElem_cons hi']
      have : Ts.getD i [] = Ts[i] := by rw [List.getD_eq_getElem?_getD, List.getElem?_eq_getElem hi']; rfl
      rw [this]
      exact List.forall_mem_cons
    refine Ev.step (fun k => by rw [zw.l0]) ?_
    rw [z1O]
    refine Ev.pos (by omega) (Ev.pos (Int.natCast_nonneg _) (Ev.pos (by omega) ?_))
    rw [rdRR, rdRR0, List.length_map, List.length_map]
    by_cases c : (Ts.getD i []).length = wideT Ts
    · refine Ev.pos (by unfold wideT at c; omega) ?_
      rw [z1L hi' (by omega)]
      refine hih.eqn ?_
      rw [decide_eq_decide, hd]
      exact ⟨fun h => ⟨c, h⟩, fun h => h.2⟩
    · refine Ev.neg (by unfold wideT at c; omega) (Ev.ret' ?_)
      symm; rw [decide_eq_false_iff_not, hd]; exact fun h => c h.1
theorem z4F (Ts : List (List E)) (hT : Ts.length ≤ 1000000) : Ev (fun k => zw.f k (rowsR Ts)) (decide (EvenT Ts)) := by
  unfold zw.f
  exact z6E Ts hT Ts.length 0 (Nat.zero_add _)
/-- Rows, joined. -/
def SmallT (Ts : List (List E)) : Prop := Ts.length ≤ 1000 ∧ ∀ t ∈ Ts, t.length ≤ 1000
theorem z5d (Ts : List (List E)) (i : Nat) (h : i < Ts.length) : Ts.take (i + 1) = Ts.take i ++ [Ts.getD i []] := by
  have hg : Ts.getD i [] = Ts[i] := by rw [List.getD_eq_getElem?_getD, List.getElem?_eq_getElem h]; rfl
  rw [hg]; exact List.take_succ_eq_append_getElem h
theorem z42 (Ts : List (List E)) (i : Nat) (h : i < Ts.length) : (Ts.take (i + 1)).flatten = (Ts.take i).flatten ++ Ts.getD i [] := by
  rw [z5d Ts i h, List.flatten_append, List.flatten_singleton]
theorem z3N (Ts : List (List E)) (hT : SmallT Ts) : ∀ i, i ≤ Ts.length → (Ts.take i).flatten.length ≤ 1000 * i
  | 0, _ => by rw [List.take_zero]; exact Nat.le_refl _
  | i + 1, h => by
    have h1 := z3N Ts hT i (by omega)
    have h2 := hT.2 _ (z2h (show i < Ts.length by omega))
    rw [z42 Ts i (by omega), List.length_append]; omega
theorem join_l1 (Ts : List (List E)) (hT : SmallT Ts) : ∀ (d i : Nat), i + d = Ts.length → Ev (fun k => zt.l1 k ((Ts.take i).flatten.map toS) (rowsS Ts) (Ts.length : Int) (i : Int)) (Ts.flatten.map toS) := by
  have h1000 := hT.1
  intro d
  induction d with
  | zero =>
    intro i hi
    refine Ev.step (fun k => by rw [zt.l1]) (Ev.neg (by omega) (Ev.ret' ?_))
    rw [List.take_of_length_le (by omega)]
  | succ d ih =>
    intro i hi
    have hi' : i < Ts.length := by omega
    have hih := ih (i + 1) (by omega)
    have hf := z3N Ts hT i (by omega)
    have hr := hT.2 _ (z2h hi')
    rw [z42 Ts i hi', List.map_append] at hih
    refine Ev.step (fun k => by rw [zt.l1]) (Ev.pos (by omega) (Ev.pos (Int.natCast_nonneg _) ?_))
    rw [z1F, rdRS, z1L hi' (by omega)]
    refine Ev.pos (by omega) (Ev.pos (by rw [List.length_map, List.length_map]; omega) hih)
theorem join_l0 (Ts : List (List E)) (hT : SmallT Ts) : ∀ (d i : Nat), i + d = Ts.length → Ev (fun k => zt.l0 k (rowsS Ts) ((Ts.take i).flatten.length : Int) (rowsS Ts) (Ts.length : Int) (i : Int)) (Ts.flatten.map toS) := by
  have h1000 := hT.1
  intro d
  induction d with
  | zero =>
    intro i hi
    have hf := z3N Ts hT i (by omega)
    refine Ev.step (fun k => by rw [zt.l0]) (Ev.neg (by omega) (Ev.pos (Int.natCast_nonneg _) (Ev.pos (by omega) ?_)))
    rw [z1F]
    have := join_l1 Ts hT Ts.length 0 (Nat.zero_add _)
    rw [List.take_zero] at this
    exact this
  | succ d ih =>
    intro i hi
    have hi' : i < Ts.length := by omega
    have hih := ih (i + 1) (by omega)
    have hf := z3N Ts hT i (by omega)
    have hr := hT.2 _ (z2h hi')
    have e : wrap64 ((((Ts.take i).flatten.length : Nat) : Int) + ((Ts.getD i []).length : Int)) = (((Ts.take (i + 1)).flatten.length : Nat) : Int) := by
      rw [z42 Ts i hi', List.length_append]
      exact w64_add (by omega) (by omega)
    refine Ev.step (fun k => by rw [zt.l0]) (Ev.pos (by omega) (Ev.pos (Int.natCast_nonneg _) ?_))
    rw [z1F, rdRS, List.length_map, e, z1L hi' (by omega)]
    exact Ev.pos (by omega) (Ev.neg (by omega) hih)
theorem Join_ev (Ts : List (List E)) (hT : SmallT Ts) : Ev (fun k => z1u.f k (rowsS Ts)) (Ts.flatten.map toS) := by
  unfold z1u.f zt.f
  rw [z1F]
  exact Ev.bnd (join_l0 Ts hT Ts.length 0 (Nat.zero_add _)) (Ev.ret _)
theorem z62 (L : Int) (Ts : List (List E)) : AllS L Ts.flatten ↔ AllT L Ts := by
  unfold AllS AllT
  constructor
  · intro h t ht x hx
    exact h x (List.mem_flatten.2 ⟨t, ht, hx⟩)
  · intro h x hx
    obtain ⟨t, ht, hxt⟩ := List.mem_flatten.1 hx
    exact h t ht x hxt
theorem z3o (L : Int) : ∀ (X : List E), Ev (fun k => z14.f k L (X.map toS)) (decide (AllS L X))
  | [] => by refine Ev.ret' ?_; symm; rw [decide_eq_true_eq]; intro x hx; cases hx
  | x :: xs => by
    show Ev (fun k => (zP.f k L (toS x).f0 (toS x).f1).bind fun b => if b = true then z14.all k L (xs.map toS) else some false) _
    refine Ev.bnd (z52 L x) ?_
    have hd : AllS L (x :: xs) ↔ OfS L x ∧ AllS L xs := List.forall_mem_cons
    by_cases c : OfS L x
    · refine Ev.pos (decide_eq_true c) ((z3o L xs).eqn ?_)
      rw [decide_eq_decide, hd]; exact ⟨fun h => ⟨c, h⟩, fun h => h.2⟩
    · refine Ev.neg (by simpa using c) (Ev.ret' ?_)
      symm; rw [decide_eq_false_iff_not, hd]; exact fun h => c h.1
/-- Rows as the document has them. -/
theorem Refs_l0 (Ts : List (List E)) (hT : SmallT Ts) : ∀ (d i : Nat), i + d = Ts.length → Ev (fun k => zu.l0 k (rowsS Ts) (rowsR (Ts.take i)) (i : Int)) (rowsR Ts) := by
  have h1000 := hT.1
  intro d
  induction d with
  | zero =>
    intro i hi
    refine Ev.step (fun k => by rw [zu.l0]) (Ev.neg (by rw [z1F]; omega) (Ev.ret' ?_))
    rw [List.take_of_length_le (by omega)]
  | succ d ih =>
    intro i hi
    have hi' : i < Ts.length := by omega
    have hih := ih (i + 1) (by omega)
    have hr := hT.2 _ (z2h hi')
    have hs : rowsR (Ts.take (i + 1)) = rowsR (Ts.take i) ++ [(Ts.getD i []).map toR] := by rw [z5d Ts i hi']; unfold rowsR; rw [List.map_append]; rfl
    rw [hs] at hih
    refine Ev.step (fun k => by rw [zu.l0]) ?_
    rw [z1F, rdRS, z1L hi' (by omega)]
    refine Ev.pos (by omega) (Ev.pos (Int.natCast_nonneg _) (Ev.bnd (Ref_ev _ (by omega)) (Ev.pos ?_ hih)))
    rw [z1O, List.length_take]; omega
theorem z6U (Ts : List (List E)) (hT : SmallT Ts) : Ev (fun k => zu.f k (rowsS Ts)) (rowsR Ts) := by
  unfold zu.f
  exact Refs_l0 Ts hT Ts.length 0 (Nat.zero_add _)
/-- Are rows few? -/
def FewT (most long : Int) (Ts : List (List E)) : Prop := (Ts.length : Int) ≤ most ∧ ∀ t ∈ Ts, (t.length : Int) ≤ long
instance (most long : Int) (Ts : List (List E)) : Decidable (FewT most long Ts) := by unfold FewT; infer_instance
theorem Few_l0 (long : Int) (Ts : List (List E)) (hT : Ts.length ≤ 1000000) : ∀ (d i : Nat), i + d = Ts.length → Ev (fun k => zK.l0 k (rowsS Ts) long (i : Int)) (decide (∀ t ∈ Ts.drop i, (t.length : Int) ≤ long)) := by
  intro d
  induction d with
  | zero =>
    intro i hi
    refine Ev.step (fun k => by rw [zK.l0]) (Ev.neg (by rw [z1F]; omega) (Ev.ret' ?_))
    symm; rw [decide_eq_true_eq, List.drop_eq_nil_of_le (by omega)]
    intro t ht; cases ht
  | succ d ih =>
    intro i hi
    have hi' : i < Ts.length := by omega
    have hih := ih (i + 1) (by omega)
    have hd : (∀ t ∈ Ts.drop i, (t.length : Int) ≤ long) ↔ ((Ts.getD i []).length : Int) ≤ long ∧ ∀ t ∈ Ts.drop (i + 1), (t.length : Int) ≤ long := by
      rw [List.drop_eq_getElem_cons hi']
      have : Ts.getD i [] = Ts[i] := by rw [List.getD_eq_getElem?_getD, List.getElem?_eq_getElem hi']; rfl
      rw [this]
      exact List.forall_mem_cons
    refine Ev.step (fun k => by rw [zK.l0]) ?_
    rw [z1F, rdRS, List.length_map, z1L hi' (by omega)]
    refine Ev.pos (by omega) (Ev.pos (Int.natCast_nonneg _) ?_)
    by_cases c : ((Ts.getD i []).length : Int) > long
    · refine Ev.pos c (Ev.ret' ?_)
      symm; rw [decide_eq_false_iff_not, hd]; exact fun h => by omega
    · refine Ev.neg c (hih.eqn ?_)
      rw [decide_eq_decide, hd]
      exact ⟨fun h => ⟨by omega, h⟩, fun h => h.2⟩
theorem Few_ev (most long : Int) (hm : most ≤ 1000000) (Ts : List (List E)) : Ev (fun k => zK.f k (rowsS Ts) most long) (decide (FewT most long Ts)) := by
  unfold zK.f
  rw [z1F]
  by_cases c : (Ts.length : Int) > most
  · refine Ev.pos c (Ev.ret' ?_)
    symm; rw [decide_eq_false_iff_not]; exact fun h => by have := h.1; omega
  · refine Ev.neg c ((Few_l0 long Ts (by omega) Ts.length 0 (Nat.zero_add _)).eqn ?_)
    rw [decide_eq_decide, List.drop_zero]
    exact ⟨fun h => ⟨by omega, h⟩, fun h => h.2⟩
/-- A column, or the error. -/
def colE (Ts : List (List E)) (j : Int) : Int := if EvenT Ts then (if Ts.length = 0 ∨ j < 0 ∨ j ≥ (wideT Ts : Int) then 4 else 0) else 6
def colL (Ts : List (List E)) (j : Nat) : List E := Ts.map fun t => t.getD j 0
def colO (Ts : List (List E)) (j : Int) : List E := if colE Ts j = 0 then colL Ts j.toNat else []
theorem z5q (Ts : List (List E)) (i j : Nat) (h : i < Ts.length) : colL (Ts.take (i + 1)) j = colL (Ts.take i) j ++ [(Ts.getD i []).getD j 0] := by
  unfold colL; rw [z5d Ts i h, List.map_append]; rfl
theorem col_l0 (Ts : List (List E)) (hT : Ts.length ≤ 1000000) (j : Nat) (hE : EvenT Ts) (hj : j < wideT Ts) : ∀ (d i : Nat), i + d = Ts.length →
    Ev (fun k => zW.l0 k (j : Int) ((colL (Ts.take i) j).map toS) (rowsS Ts) (Ts.length : Int) (i : Int)) ((colL Ts j).map toS, 0) := by
  intro d
  induction d with
  | zero =>
    intro i hi
    refine Ev.step (fun k => by rw [zW.l0]) (Ev.neg (by omega) (Ev.ret' ?_))
    rw [List.take_of_length_le (by omega)]
  | succ d ih =>
    intro i hi
    have hi' : i < Ts.length := by omega
    have hih := ih (i + 1) (by omega)
    have hr := hE _ (z2h hi')
    rw [z5q Ts i j hi', List.map_append] at hih
    refine Ev.step (fun k => by rw [zW.l0]) ?_
    rw [z1F, rdRS, List.length_map, z1L hi' (by omega)]
    refine Ev.pos (by omega) (Ev.pos (Int.natCast_nonneg _) (Ev.pos (by omega) (Ev.pos (Int.natCast_nonneg _) (Ev.pos (by omega) (Ev.pos ?_ ?_)))))
    · unfold colL; rw [List.length_map, List.length_map, List.length_take]; omega
    · simp only [rdS, z4H, z4I]
      exact hih
theorem z6I (Ts : List (List E)) (hT : Ts.length ≤ 1000000) (j : Int) : Ev (fun k => zW.f k (rowsS Ts) j) ((colO Ts j).map toS, colE Ts j) := by
  unfold zW.f
  refine Ev.bnd0 (z7d Ts) ?_
  by_cases hE : EvenT Ts
  rotate_left
  · have e : colE Ts j = 6 := if_neg hE
    have eo : colO Ts j = [] := if_neg (by rw [e]; decide)
    rw [e, eo]
    exact Ev.neg (by rw [decide_eq_false hE]; exact Bool.false_ne_true) (Ev.ret _)
  refine Ev.pos (decide_eq_true hE) ?_
  rw [z1F, rdRS0, List.length_map]
  have h4 : (Ts.length = 0 ∨ j < 0 ∨ j ≥ (wideT Ts : Int)) → colE Ts j = 4 ∧ colO Ts j = [] := by
    intro h
    have e : colE Ts j = 4 := by unfold colE; rw [if_pos hE, if_pos h]
    exact ⟨e, if_neg (by rw [e]; decide)⟩
  by_cases c1 : (Ts.length : Int) = 0
  · obtain ⟨e, eo⟩ := h4 (Or.inl (by omega))
    rw [e, eo]; exact Ev.pos c1 (Ev.ret _)
  refine Ev.neg c1 ?_
  by_cases c2 : j < 0
  · obtain ⟨e, eo⟩ := h4 (Or.inr (Or.inl c2))
    rw [e, eo]; exact Ev.pos c2 (Ev.ret _)
  refine Ev.neg c2 (Ev.pos (by omega) ?_)
  by_cases c3 : j ≥ (wideT Ts : Int)
  · obtain ⟨e, eo⟩ := h4 (Or.inr (Or.inr c3))
    rw [e, eo]; exact Ev.pos c3 (Ev.ret _)
  refine Ev.neg c3 ?_
  obtain ⟨n, rfl⟩ := Int.eq_ofNat_of_zero_le (show 0 ≤ j by omega)
  have e : colE Ts (n : Int) = 0 := by unfold colE; rw [if_pos hE, if_neg (by omega)]
  have eo : colO Ts (n : Int) = colL Ts n := by unfold colO; rw [if_pos e, Int.toNat_natCast]
  rw [e, eo]
  exact col_l0 Ts hT n hE (by omega) Ts.length 0 (Nat.zero_add _)
theorem z7E (Ts : List (List E)) (hT : Ts.length ≤ 1000000) (j : Nat) (hE : EvenT Ts) (hj : j < wideT Ts) : ∀ (d i : Nat), i + d = Ts.length →
    Ev (fun k => zf.l0 k (rowsR Ts) (j : Int) ((colL (Ts.take i) j).map toR) (i : Int)) ((colL Ts j).map toR, 0) := by
  intro d
  induction d with
  | zero =>
    intro i hi
    refine Ev.step (fun k => by rw [zf.l0]) (Ev.neg (by rw [z1O]; omega) (Ev.ret' ?_))
    rw [List.take_of_length_le (by omega)]
  | succ d ih =>
    intro i hi
    have hi' : i < Ts.length := by omega
    have hih := ih (i + 1) (by omega)
    have hr := hE _ (z2h hi')
    rw [z5q Ts i j hi', List.map_append] at hih
    refine Ev.step (fun k => by rw [zf.l0]) ?_
    rw [z1O, rdRR, List.length_map, z1L hi' (by omega)]
    refine Ev.pos (by omega) (Ev.pos (Int.natCast_nonneg _) (Ev.pos (Int.natCast_nonneg _) (Ev.pos (by omega) (Ev.pos ?_ ?_))))
    · unfold colL; rw [List.length_map, List.length_map, List.length_take]; omega
    · simp only [rdR, z5J, z5K]
      exact hih
theorem z3H (Ts : List (List E)) (hT : Ts.length ≤ 1000000) (j : Int) : Ev (fun k => zf.f k (rowsR Ts) j) ((colO Ts j).map toR, colE Ts j) := by
  unfold zf.f
  refine Ev.bnd (z4F Ts hT) ?_
  by_cases hE : EvenT Ts
  rotate_left
  · have e : colE Ts j = 6 := if_neg hE
    have eo : colO Ts j = [] := if_neg (by rw [e]; decide)
    rw [e, eo]
    exact Ev.neg (by rw [decide_eq_false hE]; exact Bool.false_ne_true) (Ev.ret _)
  refine Ev.pos (decide_eq_true hE) ?_
  rw [z1O, rdRR0, List.length_map]
  have h4 : (Ts.length = 0 ∨ j < 0 ∨ j ≥ (wideT Ts : Int)) → Ev (fun k => zf.j0 k (rowsR Ts) j [] true) ((colO Ts j).map toR, colE Ts j) := by
    intro h
    have e : colE Ts j = 4 := by unfold colE; rw [if_pos hE, if_pos h]
    have eo : colO Ts j = [] := if_neg (by rw [e]; decide)
    rw [e, eo]
    refine Ev.step (fun k => by rw [zf.j0]) ?_
    exact Ev.pos rfl (Ev.ret _)
  by_cases c1 : (Ts.length : Int) = 0
  · exact Ev.pos c1 (h4 (Or.inl (by omega)))
  refine Ev.neg c1 ?_
  by_cases c2 : j < 0
  · exact Ev.pos c2 (h4 (Or.inr (Or.inl c2)))
  refine Ev.neg c2 (Ev.pos (by omega) ?_)
  by_cases c3 : j ≥ (wideT Ts : Int)
  · have : decide (j ≥ ((Ts.getD 0 []).length : Int)) = true := decide_eq_true c3
    rw [this]
    exact h4 (Or.inr (Or.inr c3))
  have : decide (j ≥ ((Ts.getD 0 []).length : Int)) = false := decide_eq_false c3
  rw [this]
  obtain ⟨n, rfl⟩ := Int.eq_ofNat_of_zero_le (show 0 ≤ j by omega)
  have e : colE Ts (n : Int) = 0 := by unfold colE; rw [if_pos hE, if_neg (by omega)]
  have eo : colO Ts (n : Int) = colL Ts n := by unfold colO; rw [if_pos e, Int.toNat_natCast]
  rw [e, eo]
  refine Ev.step (fun k => by rw [zf.j0]) (Ev.neg (by decide) ?_)
  exact z7E Ts hT n hE (by omega) Ts.length 0 (Nat.zero_add _)
end Go.Proofs.Ytkhmpaooinpfoaa.Sp
/- Rows mixed, place by place: as the program adds them up, as the document says. Own text. -/
namespace Go.Proofs.Ytkhmpaooinpfoaa.Sp
open Go.RowKit Go.Proofs.YtkhmpaooinpfoaaW.PrintWords Go.Proofs.YtkhmpaooinpfoaaW.PrintMore Go.Proofs.Ytkhmpaooinpfoaa.P Go.Proofs.Ytkhmpaooinpfoaa.Ar Go.Proofs.Ytkhmpaooinpfoaa.Tw
set_option linter.unusedVariables false
theorem pickw_at (i : Nat) (y : E) : pick (decide (i < i)) y = 0 := by rw [decide_eq_false (Nat.lt_irrefl i), z1r]
theorem z7y (i : Nat) (y : E) : pick (decide (i < i + 1)) y = y := by rw [decide_eq_true (Nat.lt_succ_self i), z1J]
theorem z6B (i k : Nat) (y : E) (h : k ≠ i) : pick (decide (k < i + 1)) y = pick (decide (k < i)) y := by
  have : decide (k < i + 1) = decide (k < i) := by rw [decide_eq_decide]; omega
  rw [this]
theorem pickw_in (n k : Nat) (y : E) (h : k < n) : pick (decide (k < n)) y = y := by rw [decide_eq_true h, z1J]
theorem z6C (k : Nat) (y : E) : pick (decide (k < 0)) y = 0 := by rw [decide_eq_false (Nat.not_lt_zero k), z1r]
/-- What is there after so many rows. -/
def mixN (Ts : List (List E)) (B : List E) (n j : Nat) : E := sumN (fun i => B.getD i 0 * (Ts.getD i []).getD j 0) n
def mixE (L : Int) (Ts : List (List E)) (B : List E) : Int := if Ts.length = B.length ∧ EvenT Ts then (if AllS L B ∧ AllT L Ts then 0 else 5) else 6
def mixO (L : Int) (Ts : List (List E)) (B : List E) : List E := if mixE L Ts B = 0 then tabL (wideT Ts) (mixN Ts B Ts.length) else []
theorem mix_l1 {l : Nat} (hl : l ≤ 7) (Ts : List (List E)) (B : List E) (hB : AllS (l : Int) B) (hA : AllT (l : Int) Ts) (hE : EvenT Ts) (hw : wideT Ts ≤ 1000) (hlen : Ts.length = B.length) (hn : Ts.length ≤ 1000) (i : Nat) (hit : i < Ts.length) {R : List S30 × Int}
    (h : Ev (fun k => zz.l0 k (l : Int) (B.map toS) ((tabL (wideT Ts) (mixN Ts B (i + 1))).map toS) (rowsS Ts) (Ts.length : Int) ((i + 1 : Nat) : Int)) R) :
    ∀ (d j : Nat), j + d = wideT Ts → Ev (fun k => zz.l1 k (l : Int) (B.map toS) ((tabL (wideT Ts) (fun q => mixN Ts B i q + pick (decide (q < j)) (B.getD i 0 * (Ts.getD i []).getD q 0))).map toS) (i : Int) (rowsS Ts) (Ts.length : Int) (i : Int) ((Ts.getD i []).map toS) (wideT Ts : Int) (j : Int)) R := by
  have hr : (Ts.getD i []).length = wideT Ts := hE _ (z2h hit)
  have hrA : AllS (l : Int) (Ts.getD i []) := hA _ (z2h hit)
  intro d
  induction d with
  | zero =>
    intro j hj
    have : j = wideT Ts := by omega
    subst this
    refine Ev.step (fun k => by rw [zz.l1]) (Ev.neg (Int.lt_irrefl _) ?_)
    have e : tabL (wideT Ts) (fun q => mixN Ts B i q + pick (decide (q < wideT Ts)) (B.getD i 0 * (Ts.getD i []).getD q 0)) = tabL (wideT Ts) (mixN Ts B (i + 1)) := by
      apply z2B
      intro q hq
      rw [pickw_in _ _ _ hq]
      show _ = sumN _ (i + 1)
      rw [sumN]; rfl
    rw [e, z1L hit (by omega)]
    exact h
  | succ d ih =>
    intro j hj
    have hj' : j < wideT Ts := by omega
    have hih := ih (j + 1) (by omega)
    have g1 : (tabL (wideT Ts) (fun q => mixN Ts B i q + pick (decide (q < j)) (B.getD i 0 * (Ts.getD i []).getD q 0))).getD j 0 = mixN Ts B i j := by rw [z2R _ _ j hj', pickw_at, add_zero]
    have c3 : (j : Int) < (((Ts.getD i []).map toS).length : Int) := by rw [List.length_map]; omega
    have c4 : (j : Int) < (((tabL (wideT Ts) (fun q => mixN Ts B i q + pick (decide (q < j)) (B.getD i 0 * (Ts.getD i []).getD q 0))).map toS).length : Int) := by rw [List.length_map, z1X]; omega
    have c5 : (i : Int) < ((B.map toS).length : Int) := by rw [List.length_map]; omega
    have eo : ((tabL (wideT Ts) (fun q => mixN Ts B i q + pick (decide (q < j)) (B.getD i 0 * (Ts.getD i []).getD q 0))).map toS).set (j : Int).toNat (⟨hi (mixN Ts B i j + B.getD i 0 * (Ts.getD i []).getD j 0), lo (mixN Ts B i j + B.getD i 0 * (Ts.getD i []).getD j 0)⟩ : S30) = (tabL (wideT Ts) (fun q => mixN Ts B i q + pick (decide (q < j + 1)) (B.getD i 0 * (Ts.getD i []).getD q 0))).map toS := by
      rw [Int.toNat_natCast, toS_mk, map_set]
      have hn2 := z7y j (B.getD i 0 * (Ts.getD i []).getD j 0)
      conv => lhs; rw [← hn2]
      rw [z6k (wideT Ts) _ (fun q => mixN Ts B i q + pick (decide (q < j + 1)) (B.getD i 0 * (Ts.getD i []).getD q 0)) j hj' (fun q _ hne => by show mixN Ts B i q + _ = mixN Ts B i q + _; rw [z6B j q _ hne])]
    refine Ev.step (fun k => by rw [zz.l1]) (Ev.pos (by omega) (Ev.pos (Int.natCast_nonneg _) (Ev.pos c3 (Ev.pos c4 (Ev.pos (Int.natCast_nonneg _) (Ev.pos c5 ?_))))))
    simp only [rdS, g1, z4H, z4I]
    refine Ev.bnd (z6N hl (z2N hB i) (z2N hrA j)) (Ev.bnd0 (Add_eq _ _) ?_)
    simp only [eo, z1L hj' (show wideT Ts ≤ 4611686018427387904 by omega)]
    exact hih
theorem mix_l0 {l : Nat} (hl : l ≤ 7) (Ts : List (List E)) (B : List E) (hB : AllS (l : Int) B) (hA : AllT (l : Int) Ts) (hE : EvenT Ts) (hw : wideT Ts ≤ 1000) (hlen : Ts.length = B.length) (hn : Ts.length ≤ 1000) : ∀ (d i : Nat), i + d = Ts.length →
    Ev (fun k => zz.l0 k (l : Int) (B.map toS) ((tabL (wideT Ts) (mixN Ts B i)).map toS) (rowsS Ts) (Ts.length : Int) (i : Int)) ((tabL (wideT Ts) (mixN Ts B Ts.length)).map toS, 0) := by
  intro d
  induction d with
  | zero =>
    intro i hi
    have : i = Ts.length := by omega
    subst this
    refine Ev.step (fun k => by rw [zz.l0]) ?_
    exact Ev.neg (Int.lt_irrefl _) (Ev.ret _)
  | succ d ih =>
    intro i hi
    have hi' : i < Ts.length := by omega
    have hr : (Ts.getD i []).length = wideT Ts := hE _ (z2h hi')
    refine Ev.step (fun k => by rw [zz.l0]) ?_
    rw [z1F, rdRS, List.length_map, hr]
    refine Ev.pos (by omega) (Ev.pos (Int.natCast_nonneg _) (Ev.pos (by omega) ?_))
    have e0 : tabL (wideT Ts) (mixN Ts B i) = tabL (wideT Ts) (fun q => mixN Ts B i q + pick (decide (q < 0)) (B.getD i 0 * (Ts.getD i []).getD q 0)) := z2B _ (fun q _ => by rw [z6C, add_zero])
    rw [e0]
    exact mix_l1 hl Ts B hB hA hE hw hlen hn i hi' (ih (i + 1) (by omega)) (wideT Ts) 0 (Nat.zero_add _)
theorem z6y {L : Int} {B : List E} (h : AllS L B) (hB : B ≠ []) : LvS L := by
  cases B with
  | nil => exact absurd rfl hB
  | cons x xs => exact lv_of (h x List.mem_cons_self)
theorem Mix_ev (L : Int) (Ts : List (List E)) (hT : SmallT Ts) (B : List E) (hB : B.length ≤ 1000000) : Ev (fun k => zz.f k L (rowsS Ts) (B.map toS)) ((mixO L Ts B).map toS, mixE L Ts B) := by
  have hT1 := hT.1
  have h6 : ¬ (Ts.length = B.length ∧ EvenT Ts) → Ev (fun k => zz.j0 k L (rowsS Ts) (B.map toS) true) ((mixO L Ts B).map toS, mixE L Ts B) := by
    intro h
    have e : mixE L Ts B = 6 := if_neg h
    have eo : mixO L Ts B = [] := if_neg (by rw [e]; decide)
    rw [e, eo]
    refine Ev.step (fun k => by rw [zz.j0]) ?_
    exact Ev.pos rfl (Ev.ret _)
  unfold zz.f
  rw [z1F, List.length_map]
  by_cases c1 : (Ts.length : Int) = (B.length : Int)
  rotate_left
  · exact Ev.neg c1 (h6 (fun h => c1 (by omega)))
  refine Ev.pos c1 (Ev.bnd0 (z7d Ts) ?_)
  by_cases hE : EvenT Ts
  rotate_left
  · rw [decide_eq_false hE]
    exact h6 (fun h => hE h.2)
  rw [decide_eq_true hE]
  have he : mixE L Ts B = if AllS L B ∧ AllT L Ts then 0 else 5 := if_pos ⟨by omega, hE⟩
  have h5 : ¬ (AllS L B ∧ AllT L Ts) → Ev (fun k => zz.j1 k L (rowsS Ts) (B.map toS) true) ((mixO L Ts B).map toS, mixE L Ts B) := by
    intro h
    have e : mixE L Ts B = 5 := by rw [he, if_neg h]
    have eo : mixO L Ts B = [] := if_neg (by rw [e]; decide)
    rw [e, eo]
    refine Ev.step (fun k => by rw [zz.j1]) ?_
    exact Ev.pos rfl (Ev.ret _)
  refine Ev.step (fun k => by rw [zz.j0]) (Ev.neg (by decide) (Ev.bnd (z3o L B) ?_))
  by_cases cb : AllS L B
  rotate_left
  · exact Ev.neg (by rw [decide_eq_false cb]; exact Bool.false_ne_true) (h5 (fun h => cb h.1))
  refine Ev.pos (decide_eq_true cb) (Ev.bnd (Join_ev Ts hT) (Ev.bnd (z3o L Ts.flatten) ?_))
  by_cases ct : AllT L Ts
  rotate_left
  · rw [decide_eq_false (fun h => ct ((z62 L Ts).1 h))]
    exact h5 (fun h => ct h.2)
  rw [decide_eq_true ((z62 L Ts).2 ct)]
  have e : mixE L Ts B = 0 := by rw [he, if_pos ⟨cb, ct⟩]
  have eo : mixO L Ts B = tabL (wideT Ts) (mixN Ts B Ts.length) := if_pos e
  rw [e, eo]
  refine Ev.step (fun k => by rw [zz.j1]) (Ev.neg (by decide) ?_)
  rw [z1F, rdRS0, List.length_map]
  by_cases c0 : (Ts.length : Int) = 0
  · have h0 : Ts = [] := List.eq_nil_of_length_eq_zero (by omega)
    subst h0
    refine Ev.pos rfl ?_
    exact Ev.ret _
  have hB0 : B ≠ [] := by
    intro h
    rw [h] at c1
    exact c0 c1
  have hL := z6y cb hB0
  obtain ⟨l, rfl⟩ := Int.eq_ofNat_of_zero_le hL.1
  have hw : wideT Ts ≤ 1000 := hT.2 _ (z2h (show 0 < Ts.length by omega))
  have hwd : (Ts.getD 0 []).length = wideT Ts := rfl
  rw [hwd]
  refine Ev.neg c0 (Ev.pos (by omega) (Ev.pos (Int.natCast_nonneg _) (Ev.pos (by rw [Int.toNat_natCast]; omega) ?_)))
  rw [Int.toNat_natCast, z5a, z4r]
  have e0 : tabL (wideT Ts) (fun _ => (0 : E)) = tabL (wideT Ts) (mixN Ts B 0) := rfl
  rw [e0]
  exact mix_l0 (by have := hL.2; omega) Ts B cb ct hE hw (by omega) hT1 Ts.length 0 (Nat.zero_add _)
/-- The document's sums of products. -/
theorem z7G (L : Int) (X Y : List E) (hX : AllS L X) (hY : AllS L Y) (hlen : X.length = Y.length) (hn : X.length ≤ 1000000) : ∀ (d i : Nat), i + d = X.length →
    Ev (fun k => zn.l0 k L (X.map toR) (Y.map toR) (i : Int) (hi (sumN (fun j => X.getD j 0 * Y.getD j 0) i)) (lo (sumN (fun j => X.getD j 0 * Y.getD j 0) i))) (hi (sumN (fun j => X.getD j 0 * Y.getD j 0) X.length), lo (sumN (fun j => X.getD j 0 * Y.getD j 0) X.length)) := by
  intro d
  induction d with
  | zero =>
    intro i hid
    have : i = X.length := by omega
    subst this
    refine Ev.step (fun k => by rw [zn.l0]) ?_
    rw [List.length_map]
    exact Ev.neg (Int.lt_irrefl _) (Ev.ret _)
  | succ d ih =>
    intro i hid
    have hi' : i < X.length := by omega
    have hih := ih (i + 1) (by omega)
    have hx : OfS L (X.getD i 0) := by
      have : X.getD i 0 = X[i] := by rw [List.getD_eq_getElem?_getD, List.getElem?_eq_getElem hi']; rfl
      rw [this]; exact hX _ (List.getElem_mem hi')
    have hy : OfS L (Y.getD i 0) := by
      have h2 : i < Y.length := by omega
      have : Y.getD i 0 = Y[i] := by rw [List.getD_eq_getElem?_getD, List.getElem?_eq_getElem h2]; rfl
      rw [this]; exact hY _ (List.getElem_mem h2)
    have c1 : (i : Int) < ((X.map toR).length : Int) := by rw [List.length_map]; omega
    have c2 : (i : Int) < ((Y.map toR).length : Int) := by rw [List.length_map]; omega
    have hs : sumN (fun j => X.getD j 0 * Y.getD j 0) (i + 1) = sumN (fun j => X.getD j 0 * Y.getD j 0) i + X.getD i 0 * Y.getD i 0 := by rw [sumN]
    rw [hs] at hih
    refine Ev.step (fun k => by rw [zn.l0]) (Ev.pos c1 (Ev.pos (Int.natCast_nonneg _) ?_))
    simp only [rdR, z5J, z5K]
    refine Ev.bnd (z59 L _) (Ev.pos (decide_eq_true hx) (Ev.pos c2 (Ev.bnd (z59 L _) ?_)))
    rw [decide_eq_true hy]
    refine Ev.step (fun k => by rw [zn.j1]) (Ev.neg (by decide) (Ev.pos (Int.natCast_nonneg _) (Ev.pos c1 (Ev.pos c2 ?_))))
    simp only [rdR, z5J, z5K]
    refine Ev.bnd (z6p _ _) (Ev.bnd0 (z5G _ _) ?_)
    simp only [z1L hi' (show X.length ≤ 4611686018427387904 by omega)]
    exact hih
theorem z7F (L : Int) (X Y : List E) (hX : AllS L X) (hY : AllS L Y) (hlen : X.length = Y.length) (hn : X.length ≤ 1000000) :
    Ev (fun k => zn.f k L (X.map toR) (Y.map toR)) (hi (sumN (fun j => X.getD j 0 * Y.getD j 0) X.length), lo (sumN (fun j => X.getD j 0 * Y.getD j 0) X.length)) := by
  unfold zn.f
  rw [List.length_map, List.length_map]
  refine Ev.pos (by omega) ?_
  have := z7G L X Y hX hY hlen hn X.length 0 (Nat.zero_add _)
  have e : sumN (fun j => X.getD j 0 * Y.getD j 0) 0 = 0 := rfl
  rw [e, z38, z39] at this
  exact this
theorem z5l (X : List E) : AllS 7 X := fun x _ => ⟨by decide, by decide, z5u x⟩
theorem z2T (Ts : List (List E)) (j : Nat) : (colL Ts j).length = Ts.length := by unfold colL; rw [List.length_map]
theorem z7b (Ts : List (List E)) (i j : Nat) : (colL Ts j).getD i 0 = (Ts.getD i []).getD j 0 := by
  unfold colL; exact z43 (fun t : List E => t.getD j 0) Ts i [] 0 rfl
theorem z7J (Ts : List (List E)) (hT : SmallT Ts) (B : List E) (hlen : Ts.length = B.length) (hE : EvenT Ts) : ∀ (d j : Nat), j + d = wideT Ts →
    Ev (fun k => zg.l1 k (rowsR Ts) (B.map toR) ((tabL j (mixN Ts B Ts.length)).map toR) (j : Int)) ((tabL (wideT Ts) (mixN Ts B Ts.length)).map toR, 0) := by
  have hT1 := hT.1
  intro d
  induction d with
  | zero =>
    intro j hj
    have : j = wideT Ts := by omega
    subst this
    have hend : Ev (fun k => zg.j3 k (rowsR Ts) (B.map toR) ((tabL (wideT Ts) (mixN Ts B Ts.length)).map toR) (wideT Ts : Int) false) ((tabL (wideT Ts) (mixN Ts B Ts.length)).map toR, 0) := by
      refine Ev.step (fun k => by rw [zg.j3]) ?_
      exact Ev.neg (by decide) (Ev.ret _)
    refine Ev.step (fun k => by rw [zg.l1]) ?_
    rw [z1O, rdRR0, List.length_map]
    have hwd : (Ts.getD 0 []).length = wideT Ts := rfl
    rw [hwd, decide_eq_false (Int.lt_irrefl _)]
    by_cases c : (Ts.length : Int) > 0
    · exact Ev.pos c (Ev.pos c hend)
    · exact Ev.neg c hend
  | succ d ih =>
    intro j hj
    have hj' : j < wideT Ts := by omega
    have hih := ih (j + 1) (by omega)
    have h0 : 0 < Ts.length := by
      apply Nat.pos_of_ne_zero
      intro h
      have : Ts = [] := List.eq_nil_of_length_eq_zero h
      subst this
      exact absurd hj' (Nat.not_lt_zero j)
    have hw : wideT Ts ≤ 1000 := hT.2 _ (z2h h0)
    have hs : tabL (j + 1) (mixN Ts B Ts.length) = tabL j (mixN Ts B Ts.length) ++ [mixN Ts B Ts.length j] := z48 _ j
    rw [hs, List.map_append] at hih
    have hcol := z3H Ts (by omega) (j : Int)
    have e : colE Ts (j : Int) = 0 := by unfold colE; rw [if_pos hE, if_neg (by omega)]
    have eo : colO Ts (j : Int) = colL Ts j := by unfold colO; rw [if_pos e, Int.toNat_natCast]
    rw [e, eo] at hcol
    have hdot := z7F 7 (colL Ts j) B (z5l _) (z5l _) (by rw [z2T]; exact hlen) (by rw [z2T]; omega)
    have ed : sumN (fun i => (colL Ts j).getD i 0 * B.getD i 0) (colL Ts j).length = mixN Ts B Ts.length j := by
      rw [z2T]
      unfold mixN
      exact z1N _ (fun i _ => by rw [z7b, mul_comm])
    rw [ed] at hdot
    refine Ev.step (fun k => by rw [zg.l1]) ?_
    rw [z1O, rdRR0, List.length_map]
    have hwd : (Ts.getD 0 []).length = wideT Ts := rfl
    rw [hwd, decide_eq_true (show (j : Int) < (wideT Ts : Int) by omega)]
    refine Ev.pos (by omega) (Ev.pos (by omega) ?_)
    refine Ev.step (fun k => by rw [zg.j3]) (Ev.pos rfl (Ev.bnd hcol (Ev.bnd hdot (Ev.pos ?_ ?_))))
    · rw [List.length_map, z1X]; omega
    · rw [z1L hj' (by omega)]
      exact hih
theorem z7I (L : Int) (Ts : List (List E)) (hT : SmallT Ts) (B : List E) (hlen : Ts.length = B.length) (hE : EvenT Ts) : ∀ (d i : Nat), i + d = Ts.length →
    Ev (fun k => zg.l0 k L (rowsR Ts) (B.map toR) [] (i : Int)) (if AllT L (Ts.drop i) then ((tabL (wideT Ts) (mixN Ts B Ts.length)).map toR, 0) else ([], 5)) := by
  have hT1 := hT.1
  intro d
  induction d with
  | zero =>
    intro i hi
    have hd : AllT L (Ts.drop i) := by rw [List.drop_eq_nil_of_le (by omega)]; intro t ht; cases ht
    rw [if_pos hd]
    refine Ev.step (fun k => by rw [zg.l0]) (Ev.neg (by rw [z1O]; omega) ?_)
    exact z7J Ts hT B hlen hE (wideT Ts) 0 (Nat.zero_add _)
  | succ d ih =>
    intro i hi
    have hi' : i < Ts.length := by omega
    have hih := ih (i + 1) (by omega)
    have hr := hT.2 _ (z2h hi')
    have hd : AllT L (Ts.drop i) ↔ AllS L (Ts.getD i []) ∧ AllT L (Ts.drop (i + 1)) := by
      rw [List.drop_eq_getElem_cons hi']
      have : Ts.getD i [] = Ts[i] := by rw [List.getD_eq_getElem?_getD, List.getElem?_eq_getElem hi']; rfl
      rw [this]
      exact List.forall_mem_cons
    refine Ev.step (fun k => by rw [zg.l0]) ?_
    rw [z1O, rdRR, z1L hi' (by omega)]
    refine Ev.pos (by omega) (Ev.pos (Int.natCast_nonneg _) (Ev.bnd (All_ev L _ (by omega)) ?_))
    by_cases c : AllS L (Ts.getD i [])
    · refine Ev.pos (decide_eq_true c) (hih.eqn ?_)
      by_cases c2 : AllT L (Ts.drop (i + 1))
      · rw [if_pos c2, if_pos (hd.2 ⟨c, c2⟩)]
      · rw [if_neg c2, if_neg (fun h => c2 (hd.1 h).2)]
    · rw [if_neg (fun h => c (hd.1 h).1)]
      exact Ev.neg (by rw [decide_eq_false c]; exact Bool.false_ne_true) (Ev.ret _)
theorem z7H (L : Int) (Ts : List (List E)) (hT : SmallT Ts) (B : List E) (hB : B.length ≤ 1000000) : Ev (fun k => zg.f k L (rowsR Ts) (B.map toR)) ((mixO L Ts B).map toR, mixE L Ts B) := by
  have hT1 := hT.1
  have h6 : ¬ (Ts.length = B.length ∧ EvenT Ts) → Ev (fun k => zg.j0 k L (rowsR Ts) (B.map toR) [] true) ((mixO L Ts B).map toR, mixE L Ts B) := by
    intro h
    have e : mixE L Ts B = 6 := if_neg h
    have eo : mixO L Ts B = [] := if_neg (by rw [e]; decide)
    rw [e, eo]
    refine Ev.step (fun k => by rw [zg.j0]) ?_
    exact Ev.pos rfl (Ev.ret _)
  unfold zg.f
  rw [z1O, List.length_map]
  by_cases c1 : (Ts.length : Int) = (B.length : Int)
  rotate_left
  · exact Ev.neg c1 (h6 (fun h => c1 (by omega)))
  refine Ev.pos c1 (Ev.bnd (z4F Ts (by omega)) ?_)
  by_cases hE : EvenT Ts
  rotate_left
  · rw [decide_eq_false hE]
    exact h6 (fun h => hE h.2)
  rw [decide_eq_true hE]
  have he : mixE L Ts B = if AllS L B ∧ AllT L Ts then 0 else 5 := if_pos ⟨by omega, hE⟩
  refine Ev.step (fun k => by rw [zg.j0]) (Ev.neg (by decide) (Ev.bnd (All_ev L B hB) ?_))
  by_cases cb : AllS L B
  rotate_left
  · have e : mixE L Ts B = 5 := by rw [he, if_neg (fun h => cb h.1)]
    have eo : mixO L Ts B = [] := if_neg (by rw [e]; decide)
    rw [e, eo]
    exact Ev.neg (by rw [decide_eq_false cb]; exact Bool.false_ne_true) (Ev.ret _)
  refine Ev.pos (decide_eq_true cb) ((z7I L Ts hT B (by omega) hE Ts.length 0 (Nat.zero_add _)).eqn ?_)
  rw [List.drop_zero]
  by_cases ct : AllT L Ts
  · have e : mixE L Ts B = 0 := by rw [he, if_pos ⟨cb, ct⟩]
    have eo : mixO L Ts B = tabL (wideT Ts) (mixN Ts B Ts.length) := if_pos e
    rw [if_pos ct, e, eo]
  · have e : mixE L Ts B = 5 := by rw [he, if_neg (fun h => ct h.2)]
    have eo : mixO L Ts B = [] := if_neg (by rw [e]; decide)
    rw [if_neg ct, e, eo]; rfl
end Go.Proofs.Ytkhmpaooinpfoaa.Sp
namespace Go.Proofs.Ytkhmpaooinpfoaa.Sp
open Go.RowKit Go.Proofs.YtkhmpaooinpfoaaW.PrintWords Go.Proofs.YtkhmpaooinpfoaaW.PrintMore Go.Proofs.Ytkhmpaooinpfoaa.P Go.Proofs.Ytkhmpaooinpfoaa.Ar Go.Proofs.Ytkhmpaooinpfoaa.Tw
set_option linter.unusedVariables false
theorem z3Z : Ev (fun k => zJ.f k) true := Ev.of zJ.mono (k := 60) (by decide +kernel)
theorem rows_of (Rs : List (List S30)) (h : ∀ l ∈ Rs, (∀ e ∈ l, ((Lit.int .u64 e.f0).wf = true) ∧ ((Lit.int .u64 e.f1).wf = true)) ∧ l.length ≤ maxLen) : ∃ Ts : List (List E), Rs = rowsS Ts := by
  induction Rs with
  | nil => exact ⟨[], rfl⟩
  | cons l ls ih =>
    obtain ⟨X, rfl⟩ := z7n l (h l List.mem_cons_self).1
    obtain ⟨Ts, rfl⟩ := ih (fun l hl => h l (List.mem_cons_of_mem _ hl))
    exact ⟨X :: Ts, rfl⟩
end Go.Proofs.Ytkhmpaooinpfoaa.Sp
namespace Go.Proofs.Ytkhmpaooinpfoaa.Pure
open Go.RowKit Go.Proofs.YtkhmpaooinpfoaaW.PrintWords Go.Proofs.YtkhmpaooinpfoaaW.PrintMore Go.Proofs.Ytkhmpaooinpfoaa.P Go.Proofs.Ytkhmpaooinpfoaa.Ar Go.Proofs.Ytkhmpaooinpfoaa.Tw Go.Proofs.Ytkhmpaooinpfoaa.Sp
set_option linter.unusedVariables false
theorem WeaveColumns : Stated.weaveColumns.Pure := by
  intro L Rs x h0 h1 h2
  obtain ⟨B, j⟩ := x
  obtain ⟨Ts, rfl⟩ := rows_of Rs h1.1
  obtain ⟨B, rfl⟩ := z7n B h2.1.1
  refine Ev.rounds (g := fun k => zb.f k L (rowsS Ts) (B.map toS) j) ?_
  unfold zb.f
  have hT : Ev (fun k => zb.j0 k L (rowsS Ts) true (B.map toS) j) true := by
    refine Ev.step (fun k => by rw [zb.j0]) ?_
    exact Ev.pos rfl (Ev.bnd z3Z (Ev.ret _))
  refine Ev.bnd (Few_ev 12 20 (by decide) Ts) ?_
  by_cases cf : FewT 12 20 Ts
  rotate_left
  · exact Ev.neg (by rw [decide_eq_false cf]; exact Bool.false_ne_true) hT
  refine Ev.pos (decide_eq_true cf) ?_
  rw [List.length_map]
  by_cases cb : (B.length : Int) > 20
  · rw [decide_eq_true cb]; exact hT
  rw [decide_eq_false cb]
  have hS : SmallT Ts := ⟨by have := cf.1; omega, fun t ht => by have := cf.2 t ht; omega⟩
  have hn : Ts.length ≤ 1000 := hS.1
  refine Ev.step (fun k => by rw [zb.j0]) (Ev.neg (by decide) ?_)
  refine Ev.bnd (z6I Ts (by omega) j) ?_
  refine Ev.bnd (z6U Ts hS) ?_
  refine Ev.bnd (z3H Ts (by omega) j) ?_
  refine Ev.bnd (Mix_ev L Ts hS B (by omega)) ?_
  refine Ev.bnd (z6U Ts hS) ?_
  refine Ev.bnd (Ref_ev B (by omega)) ?_
  refine Ev.bnd (z7H L Ts hS B (by omega)) ?_
  refine Ev.bnd z3Z ?_
  refine Ev.pos rfl ?_
  have hc : (colO Ts j).length ≤ 1000000 := by
    unfold colO
    split
    · rw [z2T]; omega
    · decide
  have hm : (mixO L Ts B).length ≤ 1000000 := by
    unfold mixO
    split
    · rw [z1X]
      unfold wideT
      by_cases h0 : 0 < Ts.length
      · have := hS.2 _ (z2h h0); omega
      · have : Ts = [] := List.eq_nil_of_length_eq_zero (by omega)
        rw [this]; decide
    · decide
  refine Ev.bnd (z6W _ _ hc) ?_
  refine Ev.pos (decide_eq_true rfl) ?_
  refine Ev.pos rfl ?_
  refine Ev.bnd (z6W _ _ hm) ?_
  refine Ev.pos (decide_eq_true rfl) ?_
  exact Ev.ret' (beq_self_eq_true _)
end Go.Proofs.Ytkhmpaooinpfoaa.Pure
-- Own text, written by wip/tools/gen.py: the row of the law WeaveColumns, out of its pure statement (PureWeaveColumns) and the walk.
namespace Go.Proofs.Ytkhmpaooinpfoaa.weaveColumns
open Go.ChangeShapes Go.WideShapes Go.ChangeAt Go.RowKit Go.Proofs.YtkhmpaooinpfoaaW.PrintWords Go.Proofs.Ytkhmpaooinpfoaa.P Go.Proofs.Ytkhmpaooinpfoaa.Reads
set_option linter.unusedVariables false
set_option linter.unusedSimpArgs false
theorem own : ownKnob Try.prog.godebug = none := by kernel_rfl
theorem laidOut : laidOutB Try.prog = true := by kernel_rfl
theorem op30 : ReadsAs Try.prog 30 k30 (fun x => ((Lit.int .u64 x.f0).wf = true) ∧ ((Lit.int .u64 x.f1).wf = true)) :=
  (z5y (fun x : S30 => (x.f0, x.f1)) (fun a => ⟨⟨a.1, a.2⟩, rfl⟩) Try.underlying30 rfl (by kernel_rfl) (z5z (by kernel_rfl) (by kernel_rfl) (z6c Try.underlying28) (z5A (by kernel_rfl) (by kernel_rfl) (z6c Try.underlying28)) (by intro g hg; simp only [List.mem_cons, List.not_mem_nil, or_false] at hg; rcases hg with rfl <;> exact of_decide_eq_true (by kernel_rfl))))
theorem op24 : ReadsAs Try.prog 24 (Kd.slice 30 k30) (fun l => (∀ x_ ∈ l, ((Lit.int .u64 x_.f0).wf = true) ∧ ((Lit.int .u64 x_.f1).wf = true)) ∧ l.length ≤ maxLen) := z6d Try.underlying24 (by kernel_rfl) op30
theorem op44 : ReadsAs Try.prog 44 (Kd.slice 24 (Kd.slice 30 k30)) (fun l => (∀ x_ ∈ l, ((∀ y_ ∈ x_, ((Lit.int .u64 y_.f0).wf = true) ∧ ((Lit.int .u64 y_.f1).wf = true)) ∧ x_.length ≤ maxLen)) ∧ l.length ≤ maxLen) := z6d Try.underlying44 (by kernel_rfl) op24
theorem op46 : ReadsAs Try.prog 46 k46 (fun x => (((∀ x_ ∈ x.f0, ((Lit.int .u64 x_.f0).wf = true) ∧ ((Lit.int .u64 x_.f1).wf = true)) ∧ x.f0.length ≤ maxLen)) ∧ ((Lit.int .i64 x.f1).wf = true)) :=
  (z5y (fun x : S46 => (x.f0, x.f1)) (fun a => ⟨⟨a.1, a.2⟩, rfl⟩) Try.underlying46 rfl (by kernel_rfl) (z5z (by kernel_rfl) (by kernel_rfl) op24 (z5A (by kernel_rfl) (by kernel_rfl) (z6c Try.underlying3)) (by intro g hg; simp only [List.mem_cons, List.not_mem_nil, or_false] at hg; rcases hg with rfl <;> exact of_decide_eq_true (by kernel_rfl))))
set_option maxRecDepth 100000 in
theorem lifted (os : Os) (started : os.Started) (H : Type) (enc : TypeId × Value → H) :
    ReturnsInHanded {} Try.checked os 4 .any (Rows.weaveColumnsSpec.pre6 enc Try.prog Try.f4 Rows.weaveColumnsRow.domain false) (Rows.weaveColumnsSpec.post enc Try.prog Try.f4 false true false false) := by
  refine returnsInHanded_of_change_sized (C := Try.checked) own started (by kernel_rfl) Try.func4
    (ChangeSpec.witness6 (enc := enc) (C := Try.checked) false ⟨#[], #[.int .i64 0, .slice none 0 0, .agg #[.slice none 0 0, .int .i64 0]], []⟩ 8 (by kernel_rfl) (by kernel_rfl) (by kernel_rfl) (by kernel_rfl)) ?_
  intro W base args ds gs before hval0 hW hcnd hsz0 _
  have hval : ∀ (j : Nat) t v, Try.f4.params[j]? = some t → args[j]? = some v → Value.okWide Try.prog W .any base t v := hval0
  have hW' := hW
  obtain ⟨p, q, hA0, hV, rfl, hfz, hnd⟩ := hW
  have hA : DataW.TrodAll enc Try.prog W 0 (fun _ => true) true Try.f4.params.toList args.toList ds p := hA0
  rw [Try.params4] at hA hval
  obtain ⟨v0, vs0, d0, ds0, p0, q0, hargs, rfl, rfl, h0, r0⟩ := trodAll_cons hA
  obtain ⟨v1, vs1, d1, ds1, p1, q1, rfl, rfl, rfl, h1, r1⟩ := trodAll_cons r0
  obtain ⟨v2, vs2, d2, ds2, p2, q2, rfl, rfl, rfl, h2, r2⟩ := trodAll_cons r1
  obtain ⟨rfl, rfl, rfl⟩ := trodAll_nil r2
  obtain rfl : args = #[v0, v1, v2] := by cases args; simp_all
  obtain ⟨rfl, rfl⟩ := trodVars_none hV
  have k0 := h0
  have lt0 : ∀ x ∈ p0, x.block < W.heap.size := by obtain ⟨m, hm⟩ := k0; exact DataW.trod_lt m _ _ _ hm
  obtain ⟨x0, rfl, g0⟩ := arg_int Try.underlying3 (hval 0 3 v0 rfl rfl) h0
  have k1 := h1
  have lt1 : ∀ x ∈ p1, x.block < W.heap.size := by obtain ⟨m, hm⟩ := k1; exact DataW.trod_lt m _ _ _ hm
  obtain ⟨x1, A1, c1, rfl, hc1, hr1, g1⟩ := z73 op44 Try.underlying44 (hval 1 44 v1 rfl rfl) h1
  have k2 := h2
  have lt2 : ∀ x ∈ p2, x.block < W.heap.size := by obtain ⟨m, hm⟩ := k2; exact DataW.trod_lt m _ _ _ hm
  obtain ⟨x2, cs2, rfl, hK2, g2⟩ := z6t op46 Try.underlying46 (hval 2 46 v2 rfl rfl) h2
  obtain ⟨A2_0, c2_0, rfl, l2_0, r2_0⟩ := z3O hK2
  clear hA0 hval0 hsz0
  obtain ⟨k, hpure⟩ := Pure.WeaveColumns x0 x1 x2 g0 g1 g2
  refine (zb.calls k x0 _ _ x1 _ _ x2.f0 x2.f1 true W hr1 hc1 r2_0 l2_0 hpure).mono fun e W' hh => ?_
  obtain ⟨rfl, bel0⟩ := hh
  have bel : Below W.heap.size W W' := bel0
  exact ⟨_, rfl, _, _, _, [], _, [], hW', trodAll_mk1 (shut_bool Try.underlying4 _), (trodAll_cons_mk (Below.trod laidOut (by kernel_rfl) (of_decide_eq_true (by kernel_rfl)) k0 bel lt0) (trodAll_cons_mk (Below.trod laidOut (by kernel_rfl) (of_decide_eq_true (by kernel_rfl)) k1 bel lt1) (trodAll_cons_mk (Below.trod laidOut (by kernel_rfl) (of_decide_eq_true (by kernel_rfl)) k2 bel lt2) trodAll_mk0))), rfl, bel.frame _, fun h => by cases h⟩
theorem over : Rows.weaveColumnsRow.holds Try.pinned (OpenSpec.ofChange Rows.weaveColumnsSpec) :=
  OpenClaim.holds_of_wide 4 Try.f4 rfl rfl rfl rfl rfl rfl rfl ⟨rfl, rfl, rfl, rfl, rfl⟩ rfl rfl rfl rfl rfl (by kernel_rfl) Try.func4 (by kernel_rfl)
    (of_decide_eq_true (by kernel_rfl)) (by unfold Func.isWrapper; first | (rw [if_pos (by decide +kernel)]; kernel_rfl) | (rw [if_neg (by decide +kernel)]; exact ⟨rfl, rfl⟩))
    (fun os started H enc _ => lifted os started H enc)
theorem proved : Rows.WeaveColumnsSaid := over
#print axioms proved
end Go.Proofs.Ytkhmpaooinpfoaa.weaveColumns
namespace Go.Proofs.Ytkhmpaooinpfoaa
/-- The row, under a short name, for the claim. -/
theorem weaveColumns_holds : Rows.WeaveColumnsSaid := weaveColumns.proved
end Go.Proofs.Ytkhmpaooinpfoaa

/- Own text: merged by wip/tools/pack.py out of what the law PackvReckons reaches. -/
import Derived.Test.YtkhmpaooinpfoaaMPackvReckonsb
import Derived.Test.YtkhmpaooinpfoaaMPackvReckonsc
namespace Go.Proofs.Ytkhmpaooinpfoaa.P
open Go.RowKit Go.Proofs.YtkhmpaooinpfoaaW.PrintWords Go.Proofs.YtkhmpaooinpfoaaW.PrintLast Go.Proofs.YtkhmpaooinpfoaaW.PrintMore
attribute [local go_sem] z12 z14 z1b z1c zW zX z13 z15   -- for this text's walks alone
set_option linter.unusedVariables false
set_option linter.unusedSimpArgs false
def z20.f (k : Nat) (a0_0 : Int) (a0_1 : Int) : Option (Int):=if a0_0 = 0 then ((z18.f k a0_1).bind fun t102=>(some (wrap64 (t102 - 1)))) else ((z18.f k a0_0).bind fun t103=>(some (wrap64 (63 + t103))))
theorem z20.mono : ∀ a0 a1 k,LeO (z20.f k a0 a1) (z20.f (k + 1) a0 a1):=by
 intro a0 a1 k
 unfold z20.f
 repeat' first
  | (with_reducible exact z18.mono _ _)
  | (with_reducible exact LeO.refl _)
  | (with_reducible exact LeO.none _)
  | (with_reducible refine LeO.ite ?_ ?_)
  | (with_reducible refine LeO.bind ?_ (fun _=>?_))
  | exact z18.mono _ _
  | exact LeO.none _
  | refine LeO.ite ?_ ?_
  | refine LeO.bind ?_ (fun _=>?_)
set_option maxHeartbeats 8000000 in
set_option maxRecDepth 100000 in
theorem z20.calls (k : Nat) (a0_0 : Int) (a0_1 : Int) (r : Int) (w : World) (h : z20.f k a0_0 a0_1 = some r) :
 Calls Try.prog 144 #[.agg #[.int .u64 a0_0,.int .u64 a0_1]] w fun e w'=>e = .returned (.int .i64 r) ∧ Below w.heap.size w w':=by
 have hu30:=Try.underlying30
 have HB:=z1.mk (Below.refl w.heap.size w)
 have H : (if a0_0 = 0 then ((z18.f k a0_1).bind fun t102=>(some (wrap64 (t102 - 1)))) else ((z18.f k a0_0).bind fun t103=>(some (wrap64 (63 + t103))))) = some r:=h
 clear h
 by_cases c2 : a0_0 = 0
 rotate_left
 · rw [if_neg c2] at H
   have c2b0 : (a0_0 == 0) = false:=beq_eq_false_iff_ne.mpr c2
   have c2b1 : (a0_0 != 0) = true:=bne_iff_ne.mpr c2
   replace H:=Option.bind_eq_some_iff.mp H
   obtain ⟨t103,A60,H⟩:=H
   replace H : (some (wrap64 (63 + t103))) = some r:=H
   have A6:=z1.mk A60
   clear A60
   obtain rfl:=Option.some.inj H
   go_enter Try.func144,Try.ntmps144
   go_wp2_with (first|((with_reducible refine zF (N:=1) rfl ?_);refine zG ?hg (N:=1) ?hd (cs:=#[.int .u64 a0_0,.int .u64 a0_1]) (t:=30) ?hr ?_;(case hd=>rfl);(case hg=>rfl);(case hr=>first|(go_simp;done)|(go_simp;rfl));intro gb101 hg w7 hbox hb;have n0_:=z1.mk (z4 zz28 hb);have n1_:=z1.mk (hbox);have n2_:=z1.mk ((by rw [hg];exact (z5 zz28) : w.heap.size ≤ gb101));have n3_:=z1.mk ((by rw [hg];exact (z5 zz28) : w.heap.size ≤ gb101));clear HB;have HB:=n0_;have BK101:=n1_;have GW101:=n2_;have GE101:=n3_;clear n0_ n1_ n2_ n3_;clear hb hbox hg;have hcz8_0 : w7.cell? ⟨gb101,0,none⟩ = some (.int .u64 a0_0):=(zc BK101.out 0).trans rfl;have hcz8_1 : w7.cell? ⟨gb101,1,none⟩ = some (.int .u64 a0_1):=(zc BK101.out 1).trans rfl;have hfz8_0:=z8 BK101.out 0;have hfz8_1:=z8 BK101.out 1)|((with_reducible refine zl (f:=149) rfl ?_);refine goesL_ (some 8) rfl rfl Try.func149 zz78 rfl #[.int .u64 a0_0] rfl zz27 ?_;(with_reducible refine (z18.calls k a0_0 t103 _ A6.out).mono ?_);rintro e w' ⟨rfl,⟨nd,rfl⟩⟩;refine ⟨_,rfl,?_⟩))
   go_ret
   exact ⟨by first|rfl|(simp [zi,zj] <;> rfl)|(simp [*,zi,zj] <;> rfl),by repeat (first|(with_reducible first|exact HB.out|apply z7|apply z2|apply z6|refine zd ?_ GE101.out)|exact HB.out)⟩
 rw [if_pos c2] at H
 have c2b0 : (a0_0 == 0) = true:=beq_iff_eq.mpr c2
 have c2b1 : (a0_0 != 0) = false:=bne_eq_false_iff_eq.mpr c2
 clear c2
 replace H:=Option.bind_eq_some_iff.mp H
 obtain ⟨t102,A30,H⟩:=H
 replace H : (some (wrap64 (t102 - 1))) = some r:=H
 have A3:=z1.mk A30
 clear A30
 obtain rfl:=Option.some.inj H
 go_enter Try.func144,Try.ntmps144
 go_wp2_with (first|((with_reducible refine zF (N:=1) rfl ?_);refine zG ?hg (N:=1) ?hd (cs:=#[.int .u64 a0_0,.int .u64 a0_1]) (t:=30) ?hr ?_;(case hd=>rfl);(case hg=>rfl);(case hr=>first|(go_simp;done)|(go_simp;rfl));intro gb101 hg w4 hbox hb;have n0_:=z1.mk (z4 zz28 hb);have n1_:=z1.mk (hbox);have n2_:=z1.mk ((by rw [hg];exact (z5 zz28) : w.heap.size ≤ gb101));have n3_:=z1.mk ((by rw [hg];exact (z5 zz28) : w.heap.size ≤ gb101));clear HB;have HB:=n0_;have BK101:=n1_;have GW101:=n2_;have GE101:=n3_;clear n0_ n1_ n2_ n3_;clear hb hbox hg;have hcz5_0 : w4.cell? ⟨gb101,0,none⟩ = some (.int .u64 a0_0):=(zc BK101.out 0).trans rfl;have hcz5_1 : w4.cell? ⟨gb101,1,none⟩ = some (.int .u64 a0_1):=(zc BK101.out 1).trans rfl;have hfz5_0:=z8 BK101.out 0;have hfz5_1:=z8 BK101.out 1)|((with_reducible refine zl (f:=149) rfl ?_);refine goesL_ (some 12) rfl rfl Try.func149 zz78 rfl #[.int .u64 a0_1] rfl zz27 ?_;(with_reducible refine (z18.calls k a0_1 t102 _ A3.out).mono ?_);rintro e w' ⟨rfl,⟨nd,rfl⟩⟩;refine ⟨_,rfl,?_⟩))
 go_ret
 exact ⟨by first|rfl|(simp [zi,zj] <;> rfl)|(simp [*,zi,zj] <;> rfl),by repeat (first|(with_reducible first|exact HB.out|apply z7|apply z2|apply z6|refine zd ?_ GE101.out)|exact HB.out)⟩
end Go.Proofs.Ytkhmpaooinpfoaa.P
namespace Go.Proofs.Ytkhmpaooinpfoaa.P
open Go.RowKit Go.Proofs.YtkhmpaooinpfoaaW.PrintWords Go.Proofs.YtkhmpaooinpfoaaW.PrintLast Go.Proofs.YtkhmpaooinpfoaaW.PrintMore
attribute [local go_sem] z12 z14 z1b z1c zW zX z13 z15   -- for this text's walks alone
set_option linter.unusedVariables false
set_option linter.unusedSimpArgs false
def zE.q.f (k : Nat) (a0 : Int) (x0 : Int) (x1 : Int) : Option Bool:=(z20.f k x0 x1).bind fun t=>some (!(decide (t ≥ a0)))
theorem zE.q.mono : ∀ a0 a1 a2 k,LeO (zE.q.f k a0 a1 a2) (zE.q.f (k + 1) a0 a1 a2):=fun a0 a1 a2 k=>LeO.bind (z20.mono _ _ k) (fun _=>LeO.refl _)
set_option maxHeartbeats 800000 in
set_option maxRecDepth 100000 in
theorem zE.clo (k : Nat) (a0 : Int) (x : S30) (g : Nat) (r : Bool) (w : World) (hg : w.heap[g]? = some (.cells #[.int .i64 a0] 3 (0,0))) (h : zE.q.f k a0 x.f0 x.f1 = some r) :
 Calls Try.prog 143 #[.agg #[.int .u64 x.f0,.int .u64 x.f1],.pointer (some ⟨g,0,none⟩)] w fun e w'=>e = .returned (.bool (!r)) ∧ Below w.heap.size w w':=by
 have hu30:=Try.underlying30
 obtain ⟨t,ht,h2⟩:=Option.bind_eq_some_iff.mp h
 obtain rfl:=Option.some.inj h2
 have HB:=z1.mk (Below.refl w.heap.size w)
 have HG:=z1.mk hg
 have A8:=z1.mk ht
 clear hg h h2 ht
 go_enter Try.func143,Try.ntmps143
 try go_wp2_with (first
  | ((with_reducible refine zF (N:=2) rfl ?_);refine zG ?hg (N:=2) ?hd (cs:=#[.int .u64 x.f0,.int .u64 x.f1]) (t:=30) ?hr ?_;(case hd=>rfl);(case hg=>rfl);(case hr=>first|(go_simp;done)|(go_simp;rfl));intro gb hgb w1_ hbox hb;have n0_:=z1.mk (z4 HB.out hb);have n1_:=z1.mk (zg (g:=g) (o:=(.cells #[.int .i64 a0] 3 (0,0))) HG.out hb);have n2_:=z1.mk hbox;clear HB HG hbox hb hgb;have HB:=n0_;have HG:=n1_;have BX:=n2_;clear n0_ n1_ n2_))
 have n0_:=z1.mk (zf HG.out)
 have n1_:=z1.mk (zf BX.out)
 have n2_:=z1.mk (z6 HB.out)
 clear HG BX HB
 have HG:=n0_
 have BX:=n1_
 have HB:=n2_
 clear n0_ n1_ n2_
 refine start_ (n:=5) (S:=fun w'=>w'.cell? ⟨gb,0,none⟩ = some (.int .u64 x.f0) ∧ w'.cell? ⟨gb,1,none⟩ = some (.int .u64 x.f1) ∧ w'.cell? ⟨g,0,none⟩ = some (.int .i64 a0)) (ds:=[]) #[false,false,false,false,false] zz78 rfl rfl ⟨(zc BX.out 0).trans rfl,(zc BX.out 1).trans rfl,(zc HG.out 0).trans rfl⟩ (fun hHeld=>?_)
 generalize w1_.drew = w2_ at HG BX HB hHeld ⊢
 refine take_ (i:=0) (N:=some 4) (v:=?_) (a':=?_) #[true,false,false,false,false] rfl rfl zz78 (fun _ _ _ h=>h) (Or.inl ⟨by rfl,?_⟩) hHeld ?_ ?_
 rotate_left
 · rintro w' ⟨s0,s1,s2⟩
   go_simp
   with_reducible rfl
 rotate_left
 · simp only [Act.put,List.setIfInBounds_toArray,List.set_cons_zero,List.set_cons_succ,zS,zZ]
   rfl
 refine take_ (i:=2) (N:=some 6) (v:=?_) (a':=?_) #[true,false,true,false,false] rfl rfl zz78 (fun _ _ _ h=>h) (Or.inl ⟨by rfl,?_⟩) hHeld ?_ ?_
 rotate_left
 · rintro w' ⟨s0,s1,s2⟩
   go_simp
   with_reducible rfl
 rotate_left
 · simp only [Act.put,List.setIfInBounds_toArray,List.set_cons_zero,List.set_cons_succ,zS,zZ]
   rfl
 refine one_ (i:=1) (N:=some 5) #[true,true,true,false,false] rfl rfl zz78 zz79 (fun K hK=>?_)
 refine goes_ Try.func144 zz78 rfl #[.agg #[.int .u64 x.f0,.int .u64 x.f1]] zz82 rfl rfl zz73 ?_
 with_reducible refine (z20.calls k x.f0 x.f1 t _ A8.out).mono ?_
 rintro e w3_ ⟨rfl,hb0⟩
 have hb:=hb0
 refine ⟨_,rfl,?_⟩
 have n0_:=z1.mk (zg (g:=g) (o:=(.cells #[.int .i64 a0] 3 (0,0))) HG.out hb)
 have n1_:=z1.mk (zg (g:=gb) (o:=(.cells #[.int .u64 x.f0,.int .u64 x.f1] 30 (0,0))) BX.out hb)
 have n2_:=z1.mk (z4 HB.out hb)
 clear HG BX HB hb hb0
 have HG:=n0_
 have BX:=n1_
 have HB:=n2_
 clear n0_ n1_ n2_
 refine hK.out _ _ ⟨(zc BX.out 0).trans rfl,(zc BX.out 1).trans rfl,(zc HG.out 0).trans rfl⟩ (fun hHeld=>?_)
 clear hK K
 refine norm_ (a':=?_) ?_ ?_
 rotate_left
 · show Act.put _ (some 5) _ = _
   simp only [Act.put,List.setIfInBounds_toArray,List.set_cons_zero,List.set_cons_succ,zS,zZ]
   rfl
 refine pure_ (i:=3) (N:=some 7) (v:=?_) (a':=?_) #[true,true,true,true,false] rfl rfl zz78 (fun _ _ _ h=>h) (Or.inl ⟨by rfl,?_⟩) ?_ ?_
 rotate_left
 · intro w'
   go_simp
   with_reducible rfl
 rotate_left
 · simp only [Act.put,List.setIfInBounds_toArray,List.set_cons_zero,List.set_cons_succ,zS,zZ]
   rfl
 refine pure_ (i:=4) (N:=some 3) (v:=?_) (a':=?_) #[true,true,true,true,true] rfl rfl zz78 (fun _ _ _ h=>h) (Or.inl ⟨by rfl,?_⟩) ?_ ?_
 rotate_left
 · intro w'
   go_simp
   with_reducible rfl
 rotate_left
 · simp only [Act.put,List.setIfInBounds_toArray,List.set_cons_zero,List.set_cons_succ,zS,zZ]
   rfl
 refine done_ zz78 ?_
 try go_wp2
 go_ret
 exact ⟨by simp,HB.out⟩
def zE.all (k : Nat) (a0 : Int) : List S30 → Option Bool
 | []=>some true
 | x :: xs=>(zE.q.f k a0 x.f0 x.f1).bind fun b=>if b = true then zE.all k a0 xs else some false
theorem zE.z39 (a0 : Int) : ∀ (l : List S30) (k : Nat),LeO (zE.all k a0 l) (zE.all (k + 1) a0 l)
 | [],k=>LeO.refl _
 | x :: xs,k=>LeO.bind (zE.q.mono a0 x.f0 x.f1 k) (fun b=>LeO.ite (zE.z39 a0 xs k) (LeO.refl _))
theorem zE.z3U (k : Nat) (a0 : Int) (l : List S30) (i : Nat) (h : i < l.length) : zE.all k a0 (l.drop i) = (zE.q.f k a0 (rd_T30 l (i : Int)).f0 (rd_T30 l (i : Int)).f1).bind fun b=>if b = true then zE.all k a0 (l.drop (i + 1)) else some false:=by
 rw [List.drop_eq_getElem_cons h]
 have e : rd_T30 l (i : Int) = l[i]:=by unfold rd_T30;rw [Int.toNat_natCast,List.getD_eq_getElem?_getD,List.getElem?_eq_getElem h];rfl
 rw [e];rfl
set_option maxHeartbeats 800000 in
set_option maxRecDepth 100000 in
theorem zE.idx (k : Nat) (a0 : Int) (A_ : Option Addr) (c : Nat) (l : List S30) (g : Nat) (r : Bool) (w : World) (hr : Kd.C k30 w A_ l.length l) (hg : w.heap[g]? = some (.cells #[.int .i64 a0] 3 (0,0))) (h : zE.all k a0 l = some r) :
 Calls Try.prog 135 #[.slice A_ l.length c,.func (.func 143) #[] #[.pointer (some ⟨g,0,none⟩)]] w fun e w'=>(∃ i : Int,e = .returned (.int .i64 i) ∧ decide (i ≥ 0) = !r) ∧ Below w.heap.size w w':=by
 have hu30:=Try.underlying30
 have HB:=z1.mk (Below.refl w.heap.size w)
 have HG:=z1.mk hg
 have HR:=z1.mk hr
 have HA:=z1.mk h
 have HM:=z1.mk (Kd.C_max hr)
 clear hg h hr
 go_enter Try.func135,Try.ntmps135
 go_wp2
 go_loopg [8] l.length (fun kq v8 w'=>∃ (i : Nat),v8 = .int .i64 i ∧ z1 (i + kq = l.length) ∧ z1 (zE.all k a0 (l.drop i) = some r) ∧ z1 (w'.heap[g]? = some (.cells #[.int .i64 a0] 3 (0,0))) ∧ z1 (Below w.heap.size w w'))
 case atStart=>exact ⟨0,rfl,⟨by omega⟩,HA,HG,HB⟩
 case round =>
  obtain ⟨i,rfl,HK,HAi,HGi,HBi⟩:=hrel
  clear HG HB HA
  by_cases hlt : i < l.length
  rotate_left
  · have p0 : decide (i < l.length) = false:=decide_eq_false hlt
    have p1 : decide ((i : Int) < (l.length : Int)) = false:=decide_eq_false zz80
    have hr : r = true:=by
     have h1:=HAi.out
     rw [List.drop_eq_nil_of_le zz80] at h1
     exact (Option.some.inj h1).symm
    clear hlt HAi
    subst hr
    go_wp2
    go_ret
    exact ⟨⟨-1,rfl,by decide⟩,HBi.out⟩
  have hd:=zE.z3U k a0 l i hlt
  have e1:=HAi.out
  rw [hd] at e1
  obtain ⟨b,hb,e2⟩:=Option.bind_eq_some_iff.mp e1
  clear e1 hd
  have HE:=z1.mk e2
  have HF:=z1.mk hb
  clear e2 hb
  obtain ⟨ad,e205,hx0,hx1⟩:=z2j HR.out (i : Int) zz80 zz80
  cases e205
  rw [Int.toNat_natCast] at hx0 hx1
  replace hx0:=(HBi.out.cell (World.block_lt_of_cell? w _ hx0)).trans hx0
  replace hx1:=(HBi.out.cell (World.block_lt_of_cell? w _ hx1)).trans hx1
  have p0 : decide (i < l.length) = true:=decide_eq_true hlt
  have p1 : decide ((i : Int) < (l.length : Int)) = true:=decide_eq_true zz80
  have p2 : (0 ≤ (i : Int)) = True:=eq_true zz80
  have p3 : ((i : Int) < (l.length : Int)) = True:=eq_true zz80
  clear hlt
  go_wp2_with fail
  refine (zE.clo k a0 (rd_T30 l (i : Int)) g b _ HGi.out HF.out).mono ?_
  rintro e w1 ⟨rfl,hb1⟩
  have n0_:=z1.mk (z4 HBi.out hb1)
  have n1_:=z1.mk (zg (g:=g) (o:=.cells #[.int .i64 a0] 3 (0,0)) HGi.out hb1)
  clear HBi HGi hb1 hx0 hx1
  cases b with
  | true =>
   rw [if_pos rfl] at HE
   simp only [Bool.not_true]
   go_wp2
   have hi : wrap64 ((i : Int) + 1) = ((i + 1 : Nat) : Int):=by
    have:=HM.out;have:=HK.out;have h9:=of_decide_eq_true p0;unfold wrap64;omega
   go_roundg (l.length - i - 1)
   case measure=>have:=HK.out;have h9:=of_decide_eq_true p0;omega
   case rel=>exact ⟨i + 1,congrArg (Value.int .i64) hi,⟨by have:=HK.out;have h9:=of_decide_eq_true p0;omega⟩,HE,n1_,n0_⟩
  | false =>
   have hr : r = false:=by
    have:=HE.out
    simp at this
    exact this
   subst hr
   simp only [Bool.not_false]
   go_wp2
   go_ret
   exact ⟨⟨(i : Int),rfl,by simp⟩,n0_.out⟩
set_option maxHeartbeats 800000 in
set_option maxRecDepth 100000 in
theorem zE.cont (k : Nat) (a0 : Int) (A_ : Option Addr) (c : Nat) (l : List S30) (g : Nat) (r : Bool) (w : World) (hr : Kd.C k30 w A_ l.length l) (hg : w.heap[g]? = some (.cells #[.int .i64 a0] 3 (0,0))) (h : zE.all k a0 l = some r) :
 Calls Try.prog 105 #[.slice A_ l.length c,.func (.func 143) #[] #[.pointer (some ⟨g,0,none⟩)]] w fun e w'=>e = .returned (.bool (!r)) ∧ Below w.heap.size w w':=by
 have HB:=z1.mk (Below.refl w.heap.size w)
 have HG:=z1.mk hg
 have HR:=z1.mk hr
 have HA:=z1.mk h
 clear hg h hr
 go_enter Try.func105,Try.ntmps105
 go_wp2_with fail
 refine (zE.idx k a0 A_ c l g r _ HR.out HG.out HA.out).mono ?_
 rintro e w1 ⟨⟨i,rfl,hi⟩,hb1⟩
 have hb:=z1.mk hb1
 have hj:=z1.mk hi
 clear hb1 hi
 go_wp2
 go_ret
 exact ⟨by rw [← hj.out];rfl,hb.out⟩
def zE.f (k : Nat) (l0 : List S30) (a1 : Int) : Option Bool:=zE.all k a1 l0
theorem zE.mono : ∀ a0 a1 k,LeO (zE.f k a0 a1) (zE.f (k + 1) a0 a1):=fun l a0 k=>zE.z39 a0 l k
set_option maxHeartbeats 800000 in
set_option maxRecDepth 100000 in
theorem zE.calls (k : Nat) (A0 : Option Addr) (c0 : Nat) (l0 : List S30) (a1 : Int) (r : Bool) (w : World) (hr0 : Kd.C k30 w A0 l0.length l0) (hc0 : l0.length ≤ c0) (h : zE.f k l0 a1 = some r) :
 Calls Try.prog 128 #[.slice A0 l0.length c0,.int .i64 a1] w fun e w'=>e = .returned (.bool r) ∧ Below w.heap.size w w':=by
 have hmf : ∀ (fn : Fn) (first cap : Array Value) (w : World),(Instr.makeFunc fn first cap).run Try.prog w = .ok (.func fn first cap) w:=fun _ _ _ _=>rfl
 have HB:=z1.mk (Below.refl w.heap.size w)
 have HR:=z1.mk hr0
 have HA:=z1.mk (show zE.all k a1 l0 = some r from h)
 clear h hr0
 go_enter Try.func128,Try.ntmps128
 go_wp2_with (first
  | ((with_reducible refine zF (N:=3) rfl ?_);refine zG ?hg (N:=3) ?hd (cs:=#[.int .i64 a1]) (t:=3) ?hr ?_;(case hd=>rfl);(case hg=>rfl);(case hr=>first|(go_simp;done)|(go_simp;rfl));intro gb hgb w1_ hbox hb;have n0_:=z1.mk (z4 HB.out hb);have n1_:=z1.mk hbox;have n2_:=z1.mk (Kd.z1X HR.out hb);clear HB HR hbox hb hgb;have HB:=n0_;have HG:=n1_;have HR:=n2_;clear n0_ n1_ n2_)
  | ((with_reducible refine zl (f:=105) rfl ?_);refine goesL_ (some 7) rfl rfl Try.func105 zz78 rfl #[.slice A0 l0.length c0,.func (.func 143) #[] #[.pointer (some ⟨gb,0,none⟩)]] rfl zz73 ?_;(with_reducible refine (zE.cont k a1 _ _ l0 gb r _ HR.out HG.out HA.out).mono ?_);rintro e w2_ ⟨rfl,hb2⟩;refine ⟨_,rfl,?_⟩;have n0_:=z1.mk (z4 HB.out hb2);clear HB hb2;have HB:=n0_;clear n0_))
 go_ret
 exact ⟨by simp,HB.out⟩
end Go.Proofs.Ytkhmpaooinpfoaa.P
namespace Go.Proofs.Ytkhmpaooinpfoaa.P
open Go.RowKit Go.Proofs.YtkhmpaooinpfoaaW.PrintWords Go.Proofs.YtkhmpaooinpfoaaW.PrintLast Go.Proofs.YtkhmpaooinpfoaaW.PrintMore
attribute [local go_sem] z12 z14 z1b z1c zW zX z13 z15   -- for this text's walks alone
set_option linter.unusedVariables false
set_option linter.unusedSimpArgs false
def z1H.f (k : Nat) (a0_0 : Int) (a0_1 : Int) (a1 : Int) : Option (Bool):=(zI.f k a1).bind fun bt102=>(some ((Go.bits .or .u64 (Go.bits .and .u64 a0_1 bt102.2) (Go.bits .and .u64 a0_0 bt102.1)) != 0))
theorem z1H.mono : ∀ a0 a1 a2 k,LeO (z1H.f k a0 a1 a2) (z1H.f (k + 1) a0 a1 a2):=by
 intro a0 a1 a2 k
 unfold z1H.f
 repeat' first
  | (with_reducible exact zI.mono _ _)
  | (with_reducible exact LeO.refl _)
  | (with_reducible exact LeO.none _)
  | (with_reducible refine LeO.ite ?_ ?_)
  | (with_reducible refine LeO.bind ?_ (fun _=>?_))
  | exact zI.mono _ _
  | exact LeO.none _
  | refine LeO.ite ?_ ?_
  | refine LeO.bind ?_ (fun _=>?_)
set_option maxHeartbeats 8000000 in
set_option maxRecDepth 100000 in
theorem z1H.calls (k : Nat) (a0_0 : Int) (a0_1 : Int) (a1 : Int) (r : Bool) (w : World) (h : z1H.f k a0_0 a0_1 a1 = some r) :
 Calls Try.prog 129 #[.agg #[.int .u64 a0_0,.int .u64 a0_1],.int .i64 a1] w fun e w'=>e = .returned (.bool r) ∧ Below w.heap.size w w':=by
 have hu30:=Try.underlying30
 have HB:=z1.mk (Below.refl w.heap.size w)
 have H : ((zI.f k a1).bind fun bt102=>(some ((Go.bits .or .u64 (Go.bits .and .u64 a0_1 bt102.2) (Go.bits .and .u64 a0_0 bt102.1)) != 0))) = some r:=h
 clear h
 replace H:=Option.bind_eq_some_iff.mp H
 obtain ⟨⟨t102,t103⟩,A30,H⟩:=H
 replace H : (some ((Go.bits .or .u64 (Go.bits .and .u64 a0_1 t103) (Go.bits .and .u64 a0_0 t102)) != 0)) = some r:=H
 have A3:=z1.mk A30
 clear A30
 obtain rfl:=Option.some.inj H
 go_enter Try.func129,Try.ntmps129
 go_wp2_with (first|((with_reducible refine zF (N:=2) rfl ?_);refine zG ?hg (N:=2) ?hd (cs:=#[.int .u64 a0_0,.int .u64 a0_1]) (t:=30) ?hr ?_;(case hd=>rfl);(case hg=>rfl);(case hr=>first|(go_simp;done)|(go_simp;rfl));intro gb101 hg w4 hbox hb;have n0_:=z1.mk (z4 zz28 hb);have n1_:=z1.mk (hbox);have n2_:=z1.mk ((by rw [hg];exact (z5 zz28) : w.heap.size ≤ gb101));have n3_:=z1.mk ((by rw [hg];exact (z5 zz28) : w.heap.size ≤ gb101));clear HB;have HB:=n0_;have BK101:=n1_;have GW101:=n2_;have GE101:=n3_;clear n0_ n1_ n2_ n3_;clear hb hbox hg)|((with_reducible refine zl (f:=94) rfl ?_);refine goesL_ (some 7) rfl rfl Try.func94 zz78 rfl #[.int .i64 a1] rfl zz27 ?_;(with_reducible refine (zI.calls k a1 t102 t103 _ A3.out).mono ?_);rintro e w5 ⟨rfl,hb⟩;refine ⟨_,rfl,?_⟩;have n0_:=z1.mk (zg (g:=gb101) (o:=.cells #[.int .u64 a0_0,.int .u64 a0_1] 30 (0,0)) zz29 hb);have n1_:=z1.mk (z4 zz25 hb);clear BK101;clear HB;have BK101:=n0_;have HB:=n1_;clear n0_ n1_;(try clear hb);(try clear hb2);(try clear hk);(try clear hi))|((with_reducible refine zF (N:=5) rfl ?_);refine zG ?hg (N:=5) ?hd (cs:=#[.int .u64 0,.int .u64 0]) (t:=30) ?hr ?_;(case hd=>rfl);(case hg=>rfl);(case hr=>first|(go_simp;done)|(go_simp;rfl));intro gb104 hg w6 hbox hb;have n0_:=z1.mk (zg (g:=gb101) (o:=.cells #[.int .u64 a0_0,.int .u64 a0_1] 30 (0,0)) zz29 hb);have n1_:=z1.mk (z4 zz25 hb);have n2_:=z1.mk (hbox);have n3_:=z1.mk ((by rw [hg];exact (z5 zz25) : w.heap.size ≤ gb104));have n4_:=z1.mk ((by rw [hg];exact (z5 zz25) : w.heap.size ≤ gb104));have n5_:=z1.mk ((by rw [hg];exact Nat.ne_of_lt (zU (g:=gb101) (o:=.cells #[.int .u64 a0_0,.int .u64 a0_1] 30 (0,0)) zz29) : gb101 ≠ gb104));have n6_:=z1.mk ((by rw [hg];exact Nat.ne_of_gt (zU (g:=gb101) (o:=.cells #[.int .u64 a0_0,.int .u64 a0_1] 30 (0,0)) zz29) : gb104 ≠ gb101));clear BK101;clear HB;have BK101:=n0_;have HB:=n1_;have BK104:=n2_;have GW104:=n3_;have GE104:=n4_;have NB101_104:=n5_;have NB104_101:=n6_;clear n0_ n1_ n2_ n3_ n4_ n5_ n6_;clear hb hbox hg;have hnb7:=NB104_101.out;have hnc7:=NB101_104.out;have hcz8_0 : w6.cell? ⟨gb104,0,none⟩ = some (.int .u64 0):=(zc BK104.out 0).trans rfl;have hcz8_1 : w6.cell? ⟨gb104,1,none⟩ = some (.int .u64 0):=(zc BK104.out 1).trans rfl;have hfz8_0:=z8 BK104.out 0;have hfz8_1:=z8 BK104.out 1;have hcz9_0 : w6.cell? ⟨gb101,0,none⟩ = some (.int .u64 a0_0):=(zc BK101.out 0).trans rfl;have hcz9_1 : w6.cell? ⟨gb101,1,none⟩ = some (.int .u64 a0_1):=(zc BK101.out 1).trans rfl;have hfz9_0:=z8 BK101.out 0;have hfz9_1:=z8 BK101.out 1))
 go_ret
 exact ⟨by first|rfl|(simp [zi,zj] <;> rfl)|(simp [*,zi,zj] <;> rfl),by repeat (first|(with_reducible first|exact HB.out|apply z7|apply z2|apply z6|refine zd ?_ GE101.out|refine zd ?_ GE104.out)|exact HB.out)⟩
end Go.Proofs.Ytkhmpaooinpfoaa.P
namespace Go.Proofs.Ytkhmpaooinpfoaa.P
open Go.RowKit Go.Proofs.YtkhmpaooinpfoaaW.PrintWords Go.Proofs.YtkhmpaooinpfoaaW.PrintLast Go.Proofs.YtkhmpaooinpfoaaW.PrintMore
attribute [local go_sem] z12 z14 z1b z1c zW zX z13 z15   -- for this text's walks alone
set_option linter.unusedVariables false
set_option linter.unusedSimpArgs false
mutual
def zy.j0 : Nat → List (S30) → Int → Bool → Option ((List (S30)) × Int)
 | 0,_,_,_=>none
 | k + 1,x0,x1,x10=>if x10 = true then (some (([] : List (S30)),1)) else ((zE.f k x0 x1).bind fun t101=>(if t101 = true then (if 0 ≤ x1 then (if (x1 : Int).toNat ≤ 17592186044416 then (zy.l0 k x1 (List.replicate (x1 : Int).toNat z30) x0 (x0.length : Int) 0) else (none)) else (none)) else (some (([] : List (S30)),6))))
def zy.l0 : Nat → Int → List (S30) → List (S30) → Int → Int → Option ((List (S30)) × Int)
 | 0,_,_,_,_,_=>none
 | k + 1,x1,x6,x29,x30,x31=>if x31 < x30 then (if 0 ≤ x31 then (if x31 < (x29.length : Int) then (zy.l1 k x1 x6 x31 x29 x30 x31 x1 0 ((rd_T30 x29 x31).f0) ((rd_T30 x29 x31).f1)) else (none)) else (none)) else (some (x6,0))
def zy.l1 : Nat → Int → List (S30) → Int → List (S30) → Int → Int → Int → Int → Int → Int → Option ((List (S30)) × Int)
 | 0,_,_,_,_,_,_,_,_,_,_=>none
 | k + 1,x1,x6,x7,x29,x30,x31,x36,x37,x107000,x107001=>if x37 < x36 then ((z1H.f k x107000 x107001 x37).bind fun t107=>(if t107 = true then (if 0 ≤ x37 then (if x37 < (x6.length : Int) then ((zI.f k x7).bind fun bt109=>((z1L.f ((rd_T30 x6 x37).f0) ((rd_T30 x6 x37).f1) bt109.1 bt109.2).bind fun bt111=>(zy.l1 k x1 (x6.set (x37 : Int).toNat (⟨bt111.1,bt111.2⟩ : S30)) x7 x29 x30 x31 x36 (wrap64 (x37 + 1)) x107000 x107001))) else (none)) else (none)) else (zy.l1 k x1 x6 x7 x29 x30 x31 x36 (wrap64 (x37 + 1)) x107000 x107001))) else (zy.l0 k x1 x6 x29 x30 (wrap64 (x31 + 1)))
end
def zy.f (k : Nat) (l0 : List (S30)) (a1 : Int) : Option ((List (S30)) × Int):=if (l0.length : Int) > 128 then (zy.j0 k l0 a1 true) else (if a1 < 0 then (zy.j0 k l0 a1 true) else (zy.j0 k l0 a1 (decide (a1 > 128))))
theorem zy.z17 : ∀ k,(∀ y0 y1 y2,LeO (zy.j0 k y0 y1 y2) (zy.j0 (k + 1) y0 y1 y2)) ∧ (∀ y0 y1 y2 y3 y4,LeO (zy.l0 k y0 y1 y2 y3 y4) (zy.l0 (k + 1) y0 y1 y2 y3 y4)) ∧ (∀ y0 y1 y2 y3 y4 y5 y6 y7 y8 y9,LeO (zy.l1 k y0 y1 y2 y3 y4 y5 y6 y7 y8 y9) (zy.l1 (k + 1) y0 y1 y2 y3 y4 y5 y6 y7 y8 y9))
 | 0=>⟨fun _ _ _ r h=>by simp [zy.j0] at h,fun _ _ _ _ _ r h=>by simp [zy.l0] at h,fun _ _ _ _ _ _ _ _ _ _ r h=>by simp [zy.l1] at h⟩
 | k + 1=>by
  obtain ⟨ih0,ih1,ih2⟩:=zy.z17 k
  refine ⟨?_,?_,?_⟩
  · intro y0 y1 y2
    unfold zy.j0
    repeat' first
    | (with_reducible exact ih0 _ _ _)
    | (with_reducible exact ih1 _ _ _ _ _)
    | (with_reducible exact ih2 _ _ _ _ _ _ _ _ _ _)
    | (with_reducible exact z1H.mono _ _ _ _)
    | (with_reducible exact zE.mono _ _ _)
    | (with_reducible exact zI.mono _ _)
    | (with_reducible exact LeO.refl _)
    | (with_reducible exact LeO.none _)
    | (with_reducible refine LeO.ite ?_ ?_)
    | (with_reducible refine LeO.bind ?_ (fun _=>?_))
    | exact ih0 _ _ _
    | exact ih1 _ _ _ _ _
    | exact ih2 _ _ _ _ _ _ _ _ _ _
    | exact z1H.mono _ _ _ _
    | exact zE.mono _ _ _
    | exact zI.mono _ _
    | exact LeO.none _
    | refine LeO.ite ?_ ?_
    | refine LeO.bind ?_ (fun _=>?_)
  · intro y0 y1 y2 y3 y4
    unfold zy.l0
    repeat' first
    | (with_reducible exact ih0 _ _ _)
    | (with_reducible exact ih1 _ _ _ _ _)
    | (with_reducible exact ih2 _ _ _ _ _ _ _ _ _ _)
    | (with_reducible exact z1H.mono _ _ _ _)
    | (with_reducible exact zE.mono _ _ _)
    | (with_reducible exact zI.mono _ _)
    | (with_reducible exact LeO.refl _)
    | (with_reducible exact LeO.none _)
    | (with_reducible refine LeO.ite ?_ ?_)
    | (with_reducible refine LeO.bind ?_ (fun _=>?_))
    | exact ih0 _ _ _
    | exact ih1 _ _ _ _ _
    | exact ih2 _ _ _ _ _ _ _ _ _ _
    | exact z1H.mono _ _ _ _
    | exact zE.mono _ _ _
    | exact zI.mono _ _
    | exact LeO.none _
    | refine LeO.ite ?_ ?_
    | refine LeO.bind ?_ (fun _=>?_)
  · intro y0 y1 y2 y3 y4 y5 y6 y7 y8 y9
    unfold zy.l1
    repeat' first
    | (with_reducible exact ih0 _ _ _)
    | (with_reducible exact ih1 _ _ _ _ _)
    | (with_reducible exact ih2 _ _ _ _ _ _ _ _ _ _)
    | (with_reducible exact z1H.mono _ _ _ _)
    | (with_reducible exact zE.mono _ _ _)
    | (with_reducible exact zI.mono _ _)
    | (with_reducible exact LeO.refl _)
    | (with_reducible exact LeO.none _)
    | (with_reducible refine LeO.ite ?_ ?_)
    | (with_reducible refine LeO.bind ?_ (fun _=>?_))
    | exact ih0 _ _ _
    | exact ih1 _ _ _ _ _
    | exact ih2 _ _ _ _ _ _ _ _ _ _
    | exact z1H.mono _ _ _ _
    | exact zE.mono _ _ _
    | exact zI.mono _ _
    | exact LeO.none _
    | refine LeO.ite ?_ ?_
    | refine LeO.bind ?_ (fun _=>?_)
theorem zy.mono : ∀ a0 a1 k,LeO (zy.f k a0 a1) (zy.f (k + 1) a0 a1):=by
 intro a0 a1 k
 obtain ⟨ih0,ih1,ih2⟩:=zy.z17 k
 unfold zy.f
 repeat' first
  | (with_reducible exact ih0 _ _ _)
  | (with_reducible exact ih1 _ _ _ _ _)
  | (with_reducible exact ih2 _ _ _ _ _ _ _ _ _ _)
  | (with_reducible exact z1H.mono _ _ _ _)
  | (with_reducible exact zE.mono _ _ _)
  | (with_reducible exact zI.mono _ _)
  | (with_reducible exact LeO.refl _)
  | (with_reducible exact LeO.none _)
  | (with_reducible refine LeO.ite ?_ ?_)
  | (with_reducible refine LeO.bind ?_ (fun _=>?_))
  | exact ih0 _ _ _
  | exact ih1 _ _ _ _ _
  | exact ih2 _ _ _ _ _ _ _ _ _ _
  | exact z1H.mono _ _ _ _
  | exact zE.mono _ _ _
  | exact zI.mono _ _
  | exact LeO.none _
  | refine LeO.ite ?_ ?_
  | refine LeO.bind ?_ (fun _=>?_)
def zy.T13 : Bool × List (List Nat × List Nat):=(true,[([],[]),([],[]),([],[]),([],[]),([2,3],[2,3]),([4],[4]),([],[]),([6],[6]),([5,7,7],[5,7]),([0,1,0,1,2,3,4,5,6,7,8],[0,1]),([9,8,8,0,1,2,3,4,5,6,7,8],[8,9])])
def zy.B13 : List Nat:=[0,0,0,0,12,28,0,64,252,511,1023]
theorem zy.tab13 : rtab .any (opsOf Try.f95 13) = zy.T13:=by kernel_rfl
theorem zy.bits13 : waitsOk zy.T13.2 zy.B13 = true:=by kernel_rfl
set_option maxHeartbeats 8000000 in
set_option maxRecDepth 100000 in
theorem zy.calls (k : Nat) (A0 : Option Addr) (c0 : Nat) (l0 : List (S30)) (a1 : Int) (r1 : List (S30)) (r2 : Int) (w : World) (hr0 : Kd.C k30 w A0 l0.length l0) (hc0 : l0.length ≤ c0) (h : zy.f k l0 a1 = some (r1,r2)) :
 Calls Try.prog 95 #[.slice A0 l0.length c0,.int .i64 a1] w fun e w'=>∃ v0_ : Value,e = .returned (.tuple #[v0_,.int .i64 r2]) ∧ Kd.R k30 30 w' w.heap.size (fun _=>True) v0_ r1 ∧ Below w.heap.size w w':=by
 have hu30:=Try.underlying30
 have HR0:=z1.mk hr0
 have HC0:=z1.mk hc0
 clear hr0 hc0
 have HB:=z1.mk (Below.refl w.heap.size w)
 have H : (if (l0.length : Int) > 128 then (zy.j0 k l0 a1 true) else (if a1 < 0 then (zy.j0 k l0 a1 true) else (zy.j0 k l0 a1 (decide (a1 > 128))))) = some (r1,r2):=h
 clear h
 have HC3:=z1.mk H
 clear H
 go_enter Try.func95,Try.ntmps95
 go_upto_region 1 with (fail)
 go_cut [10] (fun v10 wc=>∃ (kq : Nat) (x10_2 : Bool),v10 = .bool x10_2 ∧ z1 (zy.j0 kq l0 a1 x10_2 = some (r1,r2)) ∧ z1 (kq ≤ k) ∧ z1 (Below w.heap.size w wc))
 case first =>
  have H:=HC3.out
  clear HC3
  by_cases c4 : (l0.length : Int) > 128
  · rw [if_pos c4] at H
    have c4b0 : decide (128 < (l0.length : Int)) = true:=decide_eq_true c4
    have c4b1 : decide (128 < l0.length) = true:=decide_eq_true zz80
    clear c4
    (first|rw [c4b0]|(simp only [zS,zZ];rw [c4b0])|skip)
    have H':=z1.mk H
    clear H
    go_wp2
    go_meet
    case rel=>exact ⟨_,(true),zz75,H',⟨by first|omega|exact Nat.le_refl _⟩,⟨by repeat (first|(with_reducible first|exact HB.out|apply z7|apply z2|apply z6)|exact HB.out)⟩⟩
  rw [if_neg c4] at H
  have c4b0 : decide (128 < (l0.length : Int)) = false:=decide_eq_false c4
  have c4b1 : decide (128 < l0.length) = false:=decide_eq_false zz80
  clear c4
  (first|rw [c4b0]|(simp only [zS,zZ];rw [c4b0])|skip)
  by_cases c5 : a1 < 0
  rotate_left
  · rw [if_neg c5] at H
    have c5b0 : decide (a1 < 0) = false:=decide_eq_false c5
    clear c5
    have H':=z1.mk H
    clear H
    go_wp2
    go_meet
    case rel=>exact ⟨_,(decide (a1 > 128)),zz75,H',⟨by first|omega|exact Nat.le_refl _⟩,⟨by repeat (first|(with_reducible first|exact HB.out|apply z7|apply z2|apply z6)|exact HB.out)⟩⟩
  rw [if_pos c5] at H
  have c5b0 : decide (a1 < 0) = true:=decide_eq_true c5
  clear c5
  have H':=z1.mk H
  clear H
  go_wp2
  go_meet
  case rel=>exact ⟨_,(true),zz75,H',⟨by first|omega|exact Nat.le_refl _⟩,⟨by repeat (first|(with_reducible first|exact HB.out|apply z7|apply z2|apply z6)|exact HB.out)⟩⟩
 case rest =>
  clear HC3
  (try clear p2);(try clear c4);(try clear c4b0);(try clear c4b1);(try clear c5);(try clear c5b0)
  obtain ⟨kq,x10_2,rfl,HA,HJ2,HB⟩:=hcut
  cases kq with
  | zero=>exact absurd HA.out (by simp [zy.j0])
  | succ kj2 =>
   have H:=HA.out
   clear HA
   simp only [zy.j0] at H
   by_cases c6 : x10_2 = true
   · subst c6
     have H1 : (some (([] : List (S30)),1)) = some (r1,r2):=by rw [if_pos rfl] at H;exact H
     clear H
     have H:=H1
     clear H1
     simp only [Option.some.injEq,Prod.mk.injEq] at H
     obtain ⟨rfl,rfl⟩:=H
     go_wp2
     go_ret2
     exact ⟨_,by first|rfl|(simp [zi,zj] <;> rfl)|(simp [*,zi,zj] <;> rfl),by first|exact Kd.z3f _ _ _ _ _|exact Kd.z3P _ _ _ _ _|exact Kd.z3S _ _ _ _ _|exact Kd.z3Q _ _ _ _ _|exact Kd.z3R _ _ _ _ _,by repeat (first|(with_reducible first|exact HB.out|apply z7|apply z2|apply z6)|exact HB.out)⟩
   replace c6:=Bool.eq_false_iff.mpr c6
   subst c6
   have H1 : ((zE.f kj2 l0 a1).bind fun t101=>(if t101 = true then (if 0 ≤ a1 then (if (a1 : Int).toNat ≤ 17592186044416 then (zy.l0 kj2 a1 (List.replicate (a1 : Int).toNat z30) l0 (l0.length : Int) 0) else (none)) else (none)) else (some (([] : List (S30)),6)))) = some (r1,r2):=by rw [if_neg (show ¬ (false = true) by decide)] at H;exact H
   clear H
   have H:=H1
   clear H1
   replace H:=Option.bind_eq_some_iff.mp H
   obtain ⟨t101,A70,H⟩:=H
   replace H : (if t101 = true then (if 0 ≤ a1 then (if (a1 : Int).toNat ≤ 17592186044416 then (zy.l0 kj2 a1 (List.replicate (a1 : Int).toNat z30) l0 (l0.length : Int) 0) else (none)) else (none)) else (some (([] : List (S30)),6))) = some (r1,r2):=H
   have A7:=z1.mk A70
   clear A70
   by_cases c8 : t101 = true
   rotate_left
   · replace c8:=Bool.eq_false_iff.mpr c8
     subst c8
     have H1 : (some (([] : List (S30)),6)) = some (r1,r2):=by rw [if_neg (show ¬ (false = true) by decide)] at H;exact H
     clear H
     have H:=H1
     clear H1
     simp only [Option.some.injEq,Prod.mk.injEq] at H
     obtain ⟨rfl,rfl⟩:=H
     go_wp2_with (first|((with_reducible refine zl (f:=128) rfl ?_);refine goesL_ (some 25) rfl rfl Try.func128 zz78 rfl #[.slice A0 l0.length c0,.int .i64 a1] rfl zz27 ?_;(with_reducible refine (zE.calls kj2 _ _ l0 a1 false _ ?side1 ?side2 A7.out).mono ?_);(case side1=>repeat (first|exact (Kd.z1X HR0.out HB.out)|(with_reducible refine Kd.z1h ?_ _)|(with_reducible refine Kd.z1i ?_ _)|(with_reducible refine Kd.z1y ?_)));(case side2=>exact HC0.out);rintro e w36 ⟨rfl,hb⟩;refine ⟨_,rfl,?_⟩;have n0_:=z1.mk (z4 zz28 hb);clear HB;have HB:=n0_;clear n0_;(try clear hb);(try clear hb2);(try clear hk);(try clear hi)))
     go_ret2
     exact ⟨_,by first|rfl|(simp [zi,zj] <;> rfl)|(simp [*,zi,zj] <;> rfl),by first|exact Kd.z3f _ _ _ _ _|exact Kd.z3P _ _ _ _ _|exact Kd.z3S _ _ _ _ _|exact Kd.z3Q _ _ _ _ _|exact Kd.z3R _ _ _ _ _,by repeat (first|(with_reducible first|exact HB.out|apply z7|apply z2|apply z6)|exact HB.out)⟩
   subst c8
   have H1 : (if 0 ≤ a1 then (if (a1 : Int).toNat ≤ 17592186044416 then (zy.l0 kj2 a1 (List.replicate (a1 : Int).toNat z30) l0 (l0.length : Int) 0) else (none)) else (none)) = some (r1,r2):=by rw [if_pos rfl] at H;exact H
   clear H
   have H:=H1
   clear H1
   by_cases c9 : 0 ≤ a1
   rotate_left
   · rw [if_neg c9] at H
     exact absurd H zz81
   rw [if_pos c9] at H
   have c9b0:=eq_true c9
   have c9b1 : decide (0 ≤ a1) = true:=decide_eq_true c9
   clear c9
   by_cases c10 : (a1 : Int).toNat ≤ 17592186044416
   rotate_left
   · rw [if_neg c10] at H
     exact absurd H zz81
   rw [if_pos c10] at H
   have c10b0:=eq_true c10
   have c10b1 : decide ((a1 : Int).toNat ≤ 17592186044416) = true:=decide_eq_true c10
   clear c10
   obtain ⟨y102,hy102⟩ : ∃ y_ : List (S30),y_ = (List.replicate (a1 : Int).toNat z30):=⟨_,rfl⟩
   replace H : (zy.l0 kj2 a1 y102 l0 (l0.length : Int) 0) = some (r1,r2):=by first|(rw [hy102];with_reducible exact H)|(have H2_:=(Option.bind_some _ _).symm.trans H;rw [hy102];with_reducible exact H2_)|(have H2_:=(Option.bind_some _ _).symm.trans H;with_reducible exact H2_)|with_reducible exact H|(rw [hy102];exact H)|exact H
   have Ny102:=z1.mk hy102
   clear hy102
   have H':=z1.mk H
   clear H
   go_wp2_with (first|((with_reducible refine zl (f:=128) rfl ?_);refine goesL_ (some 25) rfl rfl Try.func128 zz78 rfl #[.slice A0 l0.length c0,.int .i64 a1] rfl zz27 ?_;(with_reducible refine (zE.calls kj2 _ _ l0 a1 true _ ?side1 ?side2 A7.out).mono ?_);(case side1=>repeat (first|exact (Kd.z1X HR0.out HB.out)|(with_reducible refine Kd.z1h ?_ _)|(with_reducible refine Kd.z1i ?_ _)|(with_reducible refine Kd.z1y ?_)));(case side2=>exact HC0.out);rintro e w11 ⟨rfl,hb⟩;refine ⟨_,rfl,?_⟩;have n0_:=z1.mk (z4 zz28 hb);clear HB;have HB:=n0_;clear n0_;(try clear hb);(try clear hb2);(try clear hk);(try clear hi))|((with_reducible refine zF (N:=28) rfl ?_);refine Kd.z62 k30 _ 30 rfl (N:=28) rfl 24 _ _ rfl a1 rfl rfl Try.underlying24 (.agg #[(.int .u64 0),(.int .u64 0)]) 16 info30 rfl zz79 zz80 z30 (ok:=fun _=>True) (okp:=fun _=>True) (z2F _ _ _ z30 ) (fun _ hk=>hk) trivial (of_decide_eq_true zz74) (Nat.le_trans (Nat.mul_le_mul_right _ (of_decide_eq_true zz74 : a1.toNat ≤ 17592186044416)) zz80) (Below.refl _ _) (Nat.le_refl _) ?_;intro v103 w12 ho13 hb hg_ hnew_;clear hg_ hnew_;(first|rw [← Ny102.out] at ho13|(simp only [Int.reduceToNat] at ho13;rw [← Ny102.out] at ho13));have n0_:=z1.mk (Kd.z1l ho13 (z5 zz28));have n1_:=z1.mk (z4 zz28 hb);clear HB;have HO104:=n0_;have HB:=n1_;clear n0_ n1_;clear hb ho13))
   go_loopg [31] kj2 (fun kq v31 w'=>∃ (x6_2 : List (S30)) (x31_2 : Int),v31 = .int .i64 x31_2 ∧ z1 (zy.l0 kq a1 x6_2 l0 (l0.length : Int) x31_2 = some (r1,r2)) ∧ z1 (kq ≤ kj2) ∧ z1 (Kd.R k30 30 w' w.heap.size (fun _=>True) v103 x6_2) ∧ z1 (Below w.heap.size w w'))
   case atStart=>exact ⟨(y102),(0),zz75,H',⟨Nat.le_refl _⟩,⟨by (with_reducible repeat (first|apply Kd.zC|apply Kd.zD|apply Kd.zO));exact HO104.out⟩,⟨by repeat (first|(with_reducible first|exact HB.out|apply z7|apply z2|apply z6)|exact HB.out)⟩⟩
   case round =>
    clear H'
    (try clear c1);(try clear p2);(try clear c4);(try clear c4b0);(try clear c4b1);(try clear c5);(try clear c5b0);(try clear c6);(try clear c8);(try clear c9);(try clear c9b0);(try clear c9b1);(try clear c10);(try clear c10b0);(try clear c10b1);(try clear c12);(try clear p2)
    obtain ⟨x6_2,x31_2,rfl,HA,HK2,HO_6,HB⟩:=hrel
    cases gk with
    | zero=>exact absurd HA.out (by simp [zy.l0])
    | succ k2 =>
     have H:=HA.out
     clear HA
     simp only [zy.l0] at H
     by_cases c14 : x31_2 < (l0.length : Int)
     rotate_left
     · rw [if_neg c14] at H
       have c14b0 : decide (x31_2 < (l0.length : Int)) = false:=decide_eq_false c14
       clear c14
       simp only [Option.some.injEq,Prod.mk.injEq] at H
       obtain ⟨rfl,rfl⟩:=H
       go_wp2
       go_ret2
       exact ⟨_,by first|rfl|(simp [zi,zj] <;> rfl)|(simp [*,zi,zj] <;> rfl),by (with_reducible repeat (first|apply Kd.zC|apply Kd.zD|apply Kd.zO));exact HO_6.out,by repeat (first|(with_reducible first|exact HB.out|apply z7|apply z2|apply z6)|exact HB.out)⟩
     rw [if_pos c14] at H
     have c14b0 : decide (x31_2 < (l0.length : Int)) = true:=decide_eq_true c14
     clear c14
     by_cases c15 : 0 ≤ x31_2
     rotate_left
     · rw [if_neg c15] at H
       exact absurd H zz81
     rw [if_pos c15] at H
     have c15b0 : decide (0 ≤ x31_2) = true:=decide_eq_true c15
     clear c15
     by_cases c16 : x31_2 < (l0.length : Int)
     rotate_left
     · rw [if_neg c16] at H
       exact absurd H zz81
     rw [if_pos c16] at H
     have c16b0 : decide (x31_2 < (l0.length : Int)) = true:=decide_eq_true c16
     clear c16
     have H':=z1.mk H
     clear H
     have p105 : 0 ≤ (x31_2 : Int):=of_decide_eq_true zz74
     have q105 : x31_2 < (l0.length : Int):=of_decide_eq_true zz74
     obtain ⟨ad105,e105,hx105_0,hx105_1⟩:=z2j HR0.out x31_2 p105 q105
     cases e105
     replace hx105_0:=(HB.out.cell (World.block_lt_of_cell? w _ hx105_0)).trans hx105_0
     replace hx105_1:=(HB.out.cell (World.block_lt_of_cell? w _ hx105_1)).trans hx105_1
     replace p105:=eq_true p105
     replace q105:=eq_true q105
     go_wp2_with (first|((with_reducible refine zF (N:=8) rfl ?_);refine zG ?hg (N:=8) ?hd (cs:=#[.int .u64 0,.int .u64 0]) (t:=30) ?hr ?_;(case hd=>rfl);(case hg=>rfl);(case hr=>first|(go_simp;done)|(go_simp;rfl));intro gb106 hg w17 hbox hb;have n0_:=z1.mk (Kd.zJ (Kd.z1U zz57 gb106 (Nat.le_of_eq hg.symm)) hb);have n1_:=z1.mk (z4 zz28 hb);have n2_:=z1.mk (hbox);have n3_:=z1.mk ((by rw [hg];exact (z5 zz28) : w.heap.size ≤ gb106));have n4_:=z1.mk ((by rw [hg];exact (z5 zz28) : w.heap.size ≤ gb106));clear HO_6;clear HB;have HO_6:=n0_;have HB:=n1_;have BK106:=n2_;have GW106:=n3_;have GE106:=n4_;clear n0_ n1_ n2_ n3_ n4_;clear hb hbox hg;have hcz18_0 : w17.cell? ⟨gb106,0,none⟩ = some (.int .u64 0):=(zc BK106.out 0).trans rfl;have hcz18_1 : w17.cell? ⟨gb106,1,none⟩ = some (.int .u64 0):=(zc BK106.out 1).trans rfl;have hfz18_0:=z8 BK106.out 0;have hfz18_1:=z8 BK106.out 1))
     go_loopg [37] k2 (fun kq v37 w'=>∃ (x6_3 : List (S30)) (x37_3 : Int) (x107000_3 : Int) (x107001_3 : Int),v37 = .int .i64 x37_3 ∧ z1 (zy.l1 kq a1 x6_3 x31_2 l0 (l0.length : Int) x31_2 a1 x37_3 x107000_3 x107001_3 = some (r1,r2)) ∧ z1 (kq ≤ k2) ∧ z1 (Kd.R k30 30 w' w.heap.size (fun k_=>k_ ≠ gb106) v103 x6_3) ∧ z1 (w'.heap[gb106]? = some (.cells #[.int .u64 x107000_3,.int .u64 x107001_3] 30 (0,0))) ∧ z1 (Below w.heap.size w w'))
     case atStart=>exact ⟨(x6_2),(0),((rd_T30 l0 x31_2).f0),((rd_T30 l0 x31_2).f1),zz75,H',⟨Nat.le_refl _⟩,⟨by (with_reducible repeat (first|apply Kd.zC|apply Kd.zD|apply Kd.zO));exact Kd.z16 (Kd.z2u (p:=⟨gb106,1,none⟩) (Kd.z2u (p:=⟨gb106,0,none⟩) (Kd.z16 HO_6.out (fun k_ hk=>(⟨hk,hk.2⟩ : _ ∧ k_ ≠ gb106))) (fun _ hk=>hk.2) (.int .u64 ((rd_T30 l0 x31_2).f0))) (fun _ hk=>hk.2) (.int .u64 ((rd_T30 l0 x31_2).f1))) (fun _ hk=>hk.1.2)⟩,⟨by (with_reducible repeat (first|refine zb ?_ _|refine zf ?_|refine za ?_ _));refine z1m (cs:=#[.int .u64 ((rd_T30 l0 x31_2).f0),.int .u64 0]) ?_ 1 _ rfl;(with_reducible repeat (first|refine zb ?_ _|refine zf ?_|refine za ?_ _));refine z1m (cs:=#[.int .u64 0,.int .u64 0]) ?_ 0 _ rfl;(with_reducible repeat (first|refine zb ?_ _|refine zf ?_|refine za ?_ _));exact BK106.out⟩,⟨by repeat (first|(with_reducible first|exact HB.out|apply z7|apply z2|apply z6|refine zd ?_ GE106.out)|exact HB.out)⟩⟩
     case round =>
      clear H'
      (try clear c1);(try clear p1);(try clear q1);(try clear hx1);(try clear p2);(try clear c4);(try clear c4b0);(try clear c4b1);(try clear c5);(try clear c5b0);(try clear c6);(try clear c8);(try clear c9);(try clear c9b0);(try clear c9b1);(try clear c10);(try clear c10b0);(try clear c10b1);(try clear p10);(try clear q10);(try clear hx10);(try clear c12);(try clear c14);(try clear c14b0);(try clear c15);(try clear c15b0);(try clear c16);(try clear c16b0);(try clear hcz18_0);(try clear hcz18_1);(try clear hfz18_0);(try clear hfz18_1);(try clear hx105_0);(try clear hx105_1);(try clear p105);(try clear p2);(try clear q105)
      obtain ⟨x6_3,x37_3,x107000_3,x107001_3,rfl,HA,HK3,HO_6,BK106,HB⟩:=hrel
      cases gk with
      | zero=>exact absurd HA.out (by simp [zy.l1])
      | succ k3 =>
       have H:=HA.out
       clear HA
       simp only [zy.l1] at H
       by_cases c19 : x37_3 < a1
       rotate_left
       · rw [if_neg c19] at H
         have c19b0 : decide (x37_3 < a1) = false:=decide_eq_false c19
         clear c19
         have H':=z1.mk H
         clear H
         go_wp2
         go_roundg k3
         case measure=>have:=HJ2.out;have:=HK2.out;have:=HK3.out;omega
         case rel=>exact ⟨(x6_3),(wrap64 (x31_2 + 1)),zz75,H',⟨by have:=HJ2.out;have:=HK2.out;have:=HK3.out;omega⟩,⟨by (with_reducible repeat (first|apply Kd.zC|apply Kd.zD|apply Kd.zO));exact Kd.z16 HO_6.out (fun _ hk=>trivial)⟩,⟨by repeat (first|(with_reducible first|exact HB.out|apply z7|apply z2|apply z6|refine zd ?_ GE106.out)|exact HB.out)⟩⟩
       rw [if_pos c19] at H
       have c19b0 : decide (x37_3 < a1) = true:=decide_eq_true c19
       clear c19
       replace H:=Option.bind_eq_some_iff.mp H
       obtain ⟨t107,A200,H⟩:=H
       replace H : (if t107 = true then (if 0 ≤ x37_3 then (if x37_3 < (x6_3.length : Int) then ((zI.f k3 x31_2).bind fun bt109=>((z1L.f ((rd_T30 x6_3 x37_3).f0) ((rd_T30 x6_3 x37_3).f1) bt109.1 bt109.2).bind fun bt111=>(zy.l1 k3 a1 (x6_3.set (x37_3 : Int).toNat (⟨bt111.1,bt111.2⟩ : S30)) x31_2 l0 (l0.length : Int) x31_2 a1 (wrap64 (x37_3 + 1)) x107000_3 x107001_3))) else (none)) else (none)) else (zy.l1 k3 a1 x6_3 x31_2 l0 (l0.length : Int) x31_2 a1 (wrap64 (x37_3 + 1)) x107000_3 x107001_3)) = some (r1,r2):=H
       have A20:=z1.mk A200
       clear A200
       by_cases c21 : t107 = true
       rotate_left
       · replace c21:=Bool.eq_false_iff.mpr c21
         subst c21
         have H1 : (zy.l1 k3 a1 x6_3 x31_2 l0 (l0.length : Int) x31_2 a1 (wrap64 (x37_3 + 1)) x107000_3 x107001_3) = some (r1,r2):=by rw [if_neg (show ¬ (false = true) by decide)] at H;exact H
         clear H
         have H:=H1
         clear H1
         have H':=z1.mk H
         clear H
         have hcz34_0 : wr.cell? ⟨gb106,0,none⟩ = some (.int .u64 x107000_3):=(zc BK106.out 0).trans rfl
         have hcz34_1 : wr.cell? ⟨gb106,1,none⟩ = some (.int .u64 x107001_3):=(zc BK106.out 1).trans rfl
         have hfz34_0:=z8 BK106.out 0
         have hfz34_1:=z8 BK106.out 1
         go_wp2_with (first|((with_reducible refine zl (f:=129) rfl ?_);refine goesL_ (some 42) rfl rfl Try.func129 zz78 rfl #[.agg #[.int .u64 x107000_3,.int .u64 x107001_3],.int .i64 x37_3] rfl zz27 ?_;(with_reducible refine (z1H.calls k3 x107000_3 x107001_3 x37_3 false _ A20.out).mono ?_);rintro e w35 ⟨rfl,hb⟩;refine ⟨_,rfl,?_⟩;have n0_:=z1.mk (Kd.zJ zz57 hb);have n1_:=z1.mk (zg (g:=gb106) (o:=.cells #[.int .u64 x107000_3,.int .u64 x107001_3] 30 (0,0)) zz36 hb);have n2_:=z1.mk (z4 zz26 hb);clear HO_6;clear BK106;clear HB;have HO_6:=n0_;have BK106:=n1_;have HB:=n2_;clear n0_ n1_ n2_;(try clear hb);(try clear hb2);(try clear hk);(try clear hi)))
         go_roundg k3
         case measure=>have:=HJ2.out;have:=HK2.out;have:=HK3.out;omega
         case rel=>exact ⟨(x6_3),(wrap64 (x37_3 + 1)),(x107000_3),(x107001_3),zz75,H',⟨by have:=HJ2.out;have:=HK2.out;have:=HK3.out;omega⟩,⟨by (with_reducible repeat (first|apply Kd.zC|apply Kd.zD|apply Kd.zO));exact HO_6.out⟩,⟨by (with_reducible repeat (first|refine zb ?_ _|refine zf ?_|refine za ?_ _));exact BK106.out⟩,⟨by repeat (first|(with_reducible first|exact HB.out|apply z7|apply z2|apply z6|refine zd ?_ GE106.out)|exact HB.out)⟩⟩
       subst c21
       have H1 : (if 0 ≤ x37_3 then (if x37_3 < (x6_3.length : Int) then ((zI.f k3 x31_2).bind fun bt109=>((z1L.f ((rd_T30 x6_3 x37_3).f0) ((rd_T30 x6_3 x37_3).f1) bt109.1 bt109.2).bind fun bt111=>(zy.l1 k3 a1 (x6_3.set (x37_3 : Int).toNat (⟨bt111.1,bt111.2⟩ : S30)) x31_2 l0 (l0.length : Int) x31_2 a1 (wrap64 (x37_3 + 1)) x107000_3 x107001_3))) else (none)) else (none)) = some (r1,r2):=by rw [if_pos rfl] at H;exact H
       clear H
       have H:=H1
       clear H1
       by_cases c22 : 0 ≤ x37_3
       rotate_left
       · rw [if_neg c22] at H
         exact absurd H zz81
       rw [if_pos c22] at H
       have c22b0 : decide (0 ≤ x37_3) = true:=decide_eq_true c22
       clear c22
       by_cases c23 : x37_3 < (x6_3.length : Int)
       rotate_left
       · rw [if_neg c23] at H
         exact absurd H zz81
       rw [if_pos c23] at H
       have c23b0 : decide (x37_3 < (x6_3.length : Int)) = true:=decide_eq_true c23
       clear c23
       replace H:=Option.bind_eq_some_iff.mp H
       obtain ⟨⟨t109,t110⟩,A240,H⟩:=H
       replace H : ((z1L.f ((rd_T30 x6_3 x37_3).f0) ((rd_T30 x6_3 x37_3).f1) t109 t110).bind fun bt111=>(zy.l1 k3 a1 (x6_3.set (x37_3 : Int).toNat (⟨bt111.1,bt111.2⟩ : S30)) x31_2 l0 (l0.length : Int) x31_2 a1 (wrap64 (x37_3 + 1)) x107000_3 x107001_3)) = some (r1,r2):=H
       have A24:=z1.mk A240
       clear A240
       replace H:=Option.bind_eq_some_iff.mp H
       obtain ⟨⟨t111,t112⟩,A250,H⟩:=H
       replace H : (zy.l1 k3 a1 (x6_3.set (x37_3 : Int).toNat (⟨t111,t112⟩ : S30)) x31_2 l0 (l0.length : Int) x31_2 a1 (wrap64 (x37_3 + 1)) x107000_3 x107001_3) = some (r1,r2):=H
       have A25:=z1.mk A250
       clear A250
       obtain ⟨y113,hy113⟩ : ∃ y_ : List (S30),y_ = (x6_3.set (x37_3 : Int).toNat (⟨t111,t112⟩ : S30)):=⟨_,rfl⟩
       replace H : (zy.l1 k3 a1 y113 x31_2 l0 (l0.length : Int) x31_2 a1 (wrap64 (x37_3 + 1)) x107000_3 x107001_3) = some (r1,r2):=by first|(rw [hy113];with_reducible exact H)|(have H2_:=(Option.bind_some _ _).symm.trans H;rw [hy113];with_reducible exact H2_)|(have H2_:=(Option.bind_some _ _).symm.trans H;with_reducible exact H2_)|with_reducible exact H|(rw [hy113];exact H)|exact H
       have Ny113:=z1.mk hy113
       clear hy113
       have H':=z1.mk H
       clear H
       have hcz27_0 : wr.cell? ⟨gb106,0,none⟩ = some (.int .u64 x107000_3):=(zc BK106.out 0).trans rfl
       have hcz27_1 : wr.cell? ⟨gb106,1,none⟩ = some (.int .u64 x107001_3):=(zc BK106.out 1).trans rfl
       have hfz27_0:=z8 BK106.out 0
       have hfz27_1:=z8 BK106.out 1
       try go_wp2_with (first|((with_reducible refine zl (f:=129) rfl ?_);refine goesL_ (some 42) rfl rfl Try.func129 zz78 rfl #[.agg #[.int .u64 x107000_3,.int .u64 x107001_3],.int .i64 x37_3] rfl zz27 ?_;(with_reducible refine (z1H.calls k3 x107000_3 x107001_3 x37_3 true _ A20.out).mono ?_);rintro e w28 ⟨rfl,hb⟩;refine ⟨_,rfl,?_⟩;have n0_:=z1.mk (Kd.zJ zz57 hb);have n1_:=z1.mk (zg (g:=gb106) (o:=.cells #[.int .u64 x107000_3,.int .u64 x107001_3] 30 (0,0)) zz36 hb);have n2_:=z1.mk (z4 zz26 hb);clear HO_6;clear BK106;clear HB;have HO_6:=n0_;have BK106:=n1_;have HB:=n2_;clear n0_ n1_ n2_;(try clear hb);(try clear hb2);(try clear hk);(try clear hi)))
       have n0_:=z1.mk (Kd.zO HO_6.out)
       have n1_:=z1.mk (zf BK106.out)
       have n2_:=z1.mk (z6 HB.out)
       clear HO_6
       clear BK106
       clear HB
       have HO_6:=n0_
       have BK106:=n1_
       have HB:=n2_
       clear n0_ n1_ n2_
       obtain ⟨Ao30,co30,eo30⟩:=Kd.z1p HO_6.out
       (first|subst eo30|(injection eo30 with f1_ f2_ f3_;have f4_:=f1_.symm;have f5_:=f3_.symm;clear f1_ f2_ f3_;subst f4_;subst f5_))
       have p108 : 0 ≤ (x37_3 : Int):=of_decide_eq_true zz74
       have q108 : x37_3 < (x6_3.length : Int):=of_decide_eq_true zz74
       obtain ⟨ad108,e108,hx108_0,hx108_1⟩:=z2j (Kd.zL HO_6.out).2.2 x37_3 p108 q108
       cases e108
       replace p108:=eq_true p108
       replace q108:=eq_true q108
       refine start_ (n:=11) (S:=fun w'=>w'.cell? (ad108.add ((x37_3).toNat * 2)) = some (.int .u64 ((rd_T30 x6_3 x37_3).f0)) ∧ w'.cell? ⟨(ad108.add ((x37_3).toNat * 2)).block,(ad108.add ((x37_3).toNat * 2)).off + 1,none⟩ = some (.int .u64 ((rd_T30 x6_3 x37_3).f1))) (ds:=[10]) #[false,false,false,false,false,false,false,false,false,false,false] zz78 rfl rfl ⟨hx108_0,hx108_1⟩ (fun hHeld=>?_);refine z22 zy.tab13 zy.bits13 (fun HT_ HW_=>?_)
       generalize w28.drew = w29 at HO_6 BK106 HB hx108_0 hx108_1 hHeld ⊢
       refine pure_ (i:=0) (N:=some 43) (v:=?_) (a':=?_) #[true,false,false,false,false,false,false,false,false,false,false] rfl rfl (z1e HT_.out zz78) (fun _ _ _ h=>h) (Or.inl ⟨by rfl,?_⟩) ?_ ?_
       rotate_left
       · intro w'
         go_simp
         with_reducible rfl
       rotate_left
       · simp only [Act.put,List.setIfInBounds_toArray,List.set_cons_zero,List.set_cons_succ,zS,zZ]
         rfl
       refine pure_ (i:=1) (N:=some 44) (v:=?_) (a':=?_) #[true,true,false,false,false,false,false,false,false,false,false] rfl rfl (z1e HT_.out zz78) (fun _ _ _ h=>h) (Or.inl ⟨by rfl,?_⟩) ?_ ?_
       rotate_left
       · intro w'
         go_simp
         with_reducible rfl
       rotate_left
       · simp only [Act.put,List.setIfInBounds_toArray,List.set_cons_zero,List.set_cons_succ,zS,zZ]
         rfl
       refine pure_ (i:=2) (N:=some 45) (v:=?_) (a':=?_) #[true,true,true,false,false,false,false,false,false,false,false] rfl rfl (z1e HT_.out zz78) (fun _ _ _ h=>h) (Or.inl ⟨by rfl,?_⟩) ?_ ?_
       rotate_left
       · intro w'
         go_simp
         with_reducible rfl
       rotate_left
       · simp only [Act.put,List.setIfInBounds_toArray,List.set_cons_zero,List.set_cons_succ,zS,zZ]
         rfl
       refine pure_ (i:=3) (N:=some 46) (v:=?_) (a':=?_) #[true,true,true,true,false,false,false,false,false,false,false] rfl rfl (z1e HT_.out zz78) (fun _ _ _ h=>h) (Or.inl ⟨by rfl,?_⟩) ?_ ?_
       rotate_left
       · intro w'
         go_simp
         with_reducible rfl
       rotate_left
       · simp only [Act.put,List.setIfInBounds_toArray,List.set_cons_zero,List.set_cons_succ,zS,zZ]
         rfl
       refine pure_ (i:=4) (N:=some 47) (v:=?_) (a':=?_) #[true,true,true,true,true,false,false,false,false,false,false] rfl rfl (z1e HT_.out zz78) (fun _ _ _ h=>h) (Or.inl ⟨by rfl,?_⟩) ?_ ?_
       rotate_left
       · intro w'
         go_simp
         with_reducible rfl
       rotate_left
       · simp only [Act.put,List.setIfInBounds_toArray,List.set_cons_zero,List.set_cons_succ,zS,zZ]
         rfl
       refine pure_ (i:=6) (N:=some 49) (v:=?_) (a':=?_) #[true,true,true,true,true,false,true,false,false,false,false] rfl rfl (z1e HT_.out zz78) (fun _ _ _ h=>h) (Or.inl ⟨by rfl,?_⟩) ?_ ?_
       rotate_left
       · intro w'
         go_simp
         with_reducible rfl
       rotate_left
       · simp only [Act.put,List.setIfInBounds_toArray,List.set_cons_zero,List.set_cons_succ,zS,zZ]
         rfl
       refine take_ (i:=5) (N:=some 48) (v:=?_) (a':=?_) #[true,true,true,true,true,true,true,false,false,false,false] rfl rfl (z1I HT_.out HW_.out zz78) (fun _ _ _ h=>h) (Or.inl ⟨by rfl,?_⟩) hHeld ?_ ?_
       rotate_left
       · rintro w' ⟨s0,s1⟩
         go_simp
         with_reducible rfl
       rotate_left
       · simp only [Act.put,List.setIfInBounds_toArray,List.set_cons_zero,List.set_cons_succ,zS,zZ]
         rfl
       refine one_ (i:=7) (N:=some 50) #[true,true,true,true,true,true,true,true,false,false,false] rfl rfl (z1J HT_.out zz78) zz79 (fun K hK=>?_)
       refine goes_ Try.func94 zz78 rfl #[.int .i64 x31_2] zz82 rfl rfl zz27 ?_
       with_reducible refine (zI.calls k3 x31_2 t109 t110 _ A24.out).mono ?_
       rintro e w31 ⟨rfl,hb⟩
       have HS0_:=(hb.cell (World.block_lt_of_cell? _ _ (hHeld.1))).trans (hHeld.1)
       have HS1_:=(hb.cell (World.block_lt_of_cell? _ _ (hHeld.2))).trans (hHeld.2)
       refine ⟨_,rfl,?_⟩
       have n0_:=z1.mk (Kd.zJ zz57 hb)
       have n1_:=z1.mk (zg (g:=gb106) (o:=.cells #[.int .u64 x107000_3,.int .u64 x107001_3] 30 (0,0)) zz36 hb)
       have n2_:=z1.mk (z4 zz26 hb)
       clear HO_6
       clear BK106
       clear HB
       have HO_6:=n0_
       have BK106:=n1_
       have HB:=n2_
       clear n0_ n1_ n2_
       (try clear hb)
       (try clear hb2)
       (try clear hk)
       (try clear hi)
       refine hK.out _ _ ⟨HS0_,HS1_⟩ (fun hHeld=>?_)
       clear hK K
       refine norm_ (a':=?_) ?_ ?_
       rotate_left
       · show Act.put _ (some 50) _ = _
         simp only [Act.put,List.setIfInBounds_toArray,List.set_cons_zero,List.set_cons_succ,zS,zZ]
         rfl
       refine one_ (i:=8) (N:=some 51) #[true,true,true,true,true,true,true,true,true,false,false] rfl rfl (z1J HT_.out zz78) zz79 (fun K hK=>?_)
       refine goes_ Try.func64 zz78 rfl #[.agg #[.int .u64 ((rd_T30 x6_3 x37_3).f0),.int .u64 ((rd_T30 x6_3 x37_3).f1)],.agg #[.int .u64 t109,.int .u64 t110]] zz82 rfl rfl zz27 ?_
       with_reducible refine (z1L.calls ((rd_T30 x6_3 x37_3).f0) ((rd_T30 x6_3 x37_3).f1) t109 t110 t111 t112 _ A25.out).mono ?_
       rintro e w32 ⟨rfl,hb⟩
       have HS0_:=(hb.cell (World.block_lt_of_cell? _ _ (hHeld.1))).trans (hHeld.1)
       have HS1_:=(hb.cell (World.block_lt_of_cell? _ _ (hHeld.2))).trans (hHeld.2)
       refine ⟨_,rfl,?_⟩
       have n0_:=z1.mk (Kd.zJ zz57 hb)
       have n1_:=z1.mk (zg (g:=gb106) (o:=.cells #[.int .u64 x107000_3,.int .u64 x107001_3] 30 (0,0)) zz36 hb)
       have n2_:=z1.mk (z4 zz26 hb)
       clear HO_6
       clear BK106
       clear HB
       have HO_6:=n0_
       have BK106:=n1_
       have HB:=n2_
       clear n0_ n1_ n2_
       (try clear hb)
       (try clear hb2)
       (try clear hk)
       (try clear hi)
       have p26 : 0 ≤ (x37_3 : Int):=of_decide_eq_true zz74
       have q26 : (x37_3 : Int) < ((x6_3.length : Int) : Int):=of_decide_eq_true zz74
       obtain ⟨go26,co26,eo26,gb26,gl26,cl26,HG26⟩:=Kd.z5k HO_6.out zz80
       (first|cases eo26|(injection eo26 with ea_ en_ ec_;(first|subst ea_|(injection ea_ with ea_;subst ea_));subst ec_;clear en_))
       have GB26:=z1.mk gb26
       have GG26:=z1.mk HG26
       clear gb26 gl26 HG26
       (first|simp only [z2p] at hx108_0|skip)
       (first|simp only [z2p] at hx108_1|skip)
       obtain ⟨ce26,hcl26,hM26,hcc26,hfr26⟩:=Kd.z3g HO_6.out z30 (x37_3 : Int) p26 q26
       obtain rfl:=z1Y hM26
       have hx26_0 : World.cell? _ ⟨go26,(x37_3 : Int).toNat * 2,none⟩ = some (.int .u64 ((rd_T30 x6_3 x37_3).f0)):=hcc26 0 _ rfl
       have hx26_1 : World.cell? _ ⟨go26,(x37_3 : Int).toNat * 2 + 1,none⟩ = some (.int .u64 ((rd_T30 x6_3 x37_3).f1)):=hcc26 1 _ rfl
       have hf26_0 : World.frozen? _ ⟨go26,(x37_3 : Int).toNat * 2,none⟩ = false:=hfr26 0
       have hf26_1 : World.frozen? _ ⟨go26,(x37_3 : Int).toNat * 2 + 1,none⟩ = false:=hfr26 1
       clear hcl26 hcc26 hfr26 hM26
       replace p26:=eq_true p26
       replace q26:=eq_true q26
       obtain ⟨ce33,hcl33,hM33,hcc33,hfr33⟩:=Kd.z3g HO_6.out z30 (x37_3 : Int) (of_decide_eq_true zz74) (by have h_ : (x37_3 : Int) < ((x6_3.length : Int) : Int):=of_decide_eq_true zz74;first|exact h_|(have e_:=(Kd.zL HO_6.out).1;omega)|simpa using h_)
       obtain rfl:=z1Y hM33
       have HP33:=(Kd.z6O HO_6.out (x37_3 : Int) (of_decide_eq_true zz74) (by have h_ : (x37_3 : Int) < ((x6_3.length : Int) : Int):=of_decide_eq_true zz74;first|exact h_|(have e_:=(Kd.zL HO_6.out).1;omega)|simpa using h_) (seg:=[.int .u64 t111,.int .u64 t112]) (j:=0) hcl33 hcc33 (show 2 ≤ 2 from by decide) (x':=(⟨t111,t112⟩ : S30)) (z2F _ _ _ (⟨t111,t112⟩ : S30) ) (fun _ hk=>hk)).1
       rw [← Ny113.out] at HP33
       have HQ33:=z1.mk HP33
       clear hcl33 hcc33 hfr33 hM33 HP33
       refine hK.out _ _ ⟨HS0_,HS1_⟩ (fun hHeld=>?_)
       clear hK K
       refine norm_ (a':=?_) ?_ ?_
       rotate_left
       · show Act.put _ (some 51) _ = _
         simp only [Act.put,List.setIfInBounds_toArray,List.set_cons_zero,List.set_cons_succ,zS,zZ]
         rfl
       refine pure_ (i:=9) (N:=some 52) (v:=?_) (a':=?_) #[true,true,true,true,true,true,true,true,true,true,false] rfl rfl (z1e HT_.out zz78) (fun _ _ _ h=>h) (Or.inl ⟨by rfl,?_⟩) ?_ ?_
       rotate_left
       · intro w'
         go_simp
         with_reducible rfl
       rotate_left
       · simp only [Act.put,List.setIfInBounds_toArray,List.set_cons_zero,List.set_cons_succ,zS,zZ]
         rfl
       refine last_ (i:=10) (N:=none) #[true,true,true,true,true,true,true,true,true,true,true] rfl rfl (z1J HT_.out zz78) zz79 (fun K hK=>?_)
       refine skip_ (w1:=?_) zz82 rfl ?_ ?_
       rotate_left
       · go_simp
         rfl
       refine hK.out _ _ ?_
       clear hK K
       refine done_ (z2q HT_.out zz78) ?_
       try go_wp2
       go_roundg k3
       case measure=>have:=HJ2.out;have:=HK2.out;have:=HK3.out;omega
       case rel=>exact ⟨(y113),(wrap64 (x37_3 + 1)),(x107000_3),(x107001_3),zz75,H',⟨by have:=HJ2.out;have:=HK2.out;have:=HK3.out;omega⟩,⟨by (with_reducible repeat (first|apply Kd.zC|apply Kd.zD|apply Kd.zO));exact HQ33.out⟩,⟨by (with_reducible repeat (first|refine zb ?_ _|refine zf ?_|refine za ?_ _));refine z1a ?_ zz72 _;(with_reducible repeat (first|refine zb ?_ _|refine zf ?_|refine za ?_ _));refine z1a ?_ zz72 _;(with_reducible repeat (first|refine zb ?_ _|refine zf ?_|refine za ?_ _));exact BK106.out⟩,⟨by repeat (first|(with_reducible first|exact HB.out|apply z7|apply z2|apply z6|refine zd ?_ GB26.out|refine zd ?_ GB26.out|refine zd ?_ GE106.out)|exact HB.out)⟩⟩
end Go.Proofs.Ytkhmpaooinpfoaa.P
namespace Go.Proofs.Ytkhmpaooinpfoaa.P
open Go.RowKit Go.Proofs.YtkhmpaooinpfoaaW.PrintWords Go.Proofs.YtkhmpaooinpfoaaW.PrintLast Go.Proofs.YtkhmpaooinpfoaaW.PrintMore
attribute [local go_sem] z12 z14 z1b z1c zW zX z13 z15   -- for this text's walks alone
set_option linter.unusedVariables false
set_option linter.unusedSimpArgs false
def z1d.f (k : Nat) (a0 : Int) (l1 : List (S30)) : Option ((List (S30)) × Int):=(zv.f k a0 (([l1] : List (List (S30)))) ([] : List (S30))).bind fun t104=>(if t104 = 0 then ((zP.f k a0).bind fun t105=>((zy.f k l1 t105).bind fun bt106=>(some (bt106.1,bt106.2)))) else (some (([] : List (S30)),t104)))
theorem z1d.mono : ∀ a0 a1 k,LeO (z1d.f k a0 a1) (z1d.f (k + 1) a0 a1):=by
 intro a0 a1 k
 unfold z1d.f
 repeat' first
  | (with_reducible exact zv.mono _ _ _ _)
  | (with_reducible exact zP.mono _ _)
  | (with_reducible exact zy.mono _ _ _)
  | (with_reducible exact LeO.refl _)
  | (with_reducible exact LeO.none _)
  | (with_reducible refine LeO.ite ?_ ?_)
  | (with_reducible refine LeO.bind ?_ (fun _=>?_))
  | exact zv.mono _ _ _ _
  | exact zP.mono _ _
  | exact zy.mono _ _ _
  | exact LeO.none _
  | refine LeO.ite ?_ ?_
  | refine LeO.bind ?_ (fun _=>?_)
set_option maxHeartbeats 8000000 in
set_option maxRecDepth 100000 in
theorem z1d.calls (k : Nat) (a0 : Int) (P1_ : Nat → Prop) (A1 : Option Addr) (c1 : Nat) (l1 : List (S30)) (r1 : List (S30)) (r2 : Int) (w : World) (hs1 : Kd.V k30 30 w w.heap.size (fun k_=>P1_ k_) (.slice A1 l1.length c1) l1) (h : z1d.f k a0 l1 = some (r1,r2)) :
 Calls Try.prog 42 #[.int .i64 a0,.slice A1 l1.length c1] w fun e w'=>∃ v0_ : Value,e = .returned (.tuple #[v0_,.int .i64 r2]) ∧ Kd.R k30 30 w' w.heap.size (fun k_=>(w.heap.size ≤ k_)) v0_ r1 ∧ Below w.heap.size w w':=by
 have HO1:=z1.mk (show Kd.V k30 30 w w.heap.size (fun k_=>(P1_ k_ ∨ w.heap.size ≤ k_)) (.slice A1 l1.length c1) l1 from Kd.z1o hs1 (fun k_ hk=>.inl hk))
 have HB:=z1.mk (Below.refl w.heap.size w)
 have H : ((zv.f k a0 (([l1] : List (List (S30)))) ([] : List (S30))).bind fun t104=>(if t104 = 0 then ((zP.f k a0).bind fun t105=>((zy.f k l1 t105).bind fun bt106=>(some (bt106.1,bt106.2)))) else (some (([] : List (S30)),t104)))) = some (r1,r2):=h
 clear h
 obtain ⟨y101,hy101⟩ : ∃ y_ : List (List (S30)),y_ = (([l1] : List (List (S30)))):=⟨_,rfl⟩
 replace H : ((zv.f k a0 y101 ([] : List (S30))).bind fun t104=>(if t104 = 0 then ((zP.f k a0).bind fun t105=>((zy.f k l1 t105).bind fun bt106=>(some (bt106.1,bt106.2)))) else (some (([] : List (S30)),t104)))) = some (r1,r2):=by first|(rw [hy101];with_reducible exact H)|(have H2_:=(Option.bind_some _ _).symm.trans H;rw [hy101];with_reducible exact H2_)|(have H2_:=(Option.bind_some _ _).symm.trans H;with_reducible exact H2_)|with_reducible exact H|(rw [hy101];exact H)|exact H
 have Ny101:=z1.mk hy101
 clear hy101
 replace H:=Option.bind_eq_some_iff.mp H
 obtain ⟨t104,A30,H⟩:=H
 replace H : (if t104 = 0 then ((zP.f k a0).bind fun t105=>((zy.f k l1 t105).bind fun bt106=>(some (bt106.1,bt106.2)))) else (some (([] : List (S30)),t104))) = some (r1,r2):=H
 have A3:=z1.mk A30
 clear A30
 by_cases c4 : t104 = 0
 rotate_left
 · rw [if_neg c4] at H
   have c4b0 : (t104 == 0) = false:=beq_eq_false_iff_ne.mpr c4
   have c4b1 : (t104 != 0) = true:=bne_iff_ne.mpr c4
   simp only [Option.some.injEq,Prod.mk.injEq] at H
   obtain ⟨rfl,rfl⟩:=H
   go_enter Try.func42,Try.ntmps42
   go_wp2_with (first|((with_reducible refine zF (N:=11) rfl ?_);refine Kd.z5j (Kd.slice 30 k30) _ 80 ?hg (N':=11) ?hd (xs:=([l1] : List (List (S30)))) (inner:=[.slice A1 l1.length c1]) (ok:=(fun k_=>(P1_ k_ ∨ w.heap.size ≤ k_))) (okp:=(fun k_=>(P1_ k_ ∨ w.heap.size ≤ k_))) ?hr ?hp (fun _ hk=>hk) ((show ∀ k_,w.heap.size ≤ k_ → (fun k_=>(P1_ k_ ∨ w.heap.size ≤ k_)) k_ from fun k_ hk=>(.inr (Nat.le_trans (z5 zz28) hk))) _ (Nat.le_refl _)) (Below.refl _ _) (Nat.le_refl _) zz81 ?_;(case hd=>rfl);(case hg=>rfl);(case hr=>first|(go_simp;done)|(go_simp;rfl));(case hp=>exact (Reps.one (show Kd.FK (Kd.slice 30 k30) _ _ l1 [.slice A1 l1.length c1] from (Kd.z1A (Kd.z1t (Kd.z1o (ok':=(fun k_=>(P1_ k_ ∨ w.heap.size ≤ k_))) (HO1.out) (fun k_ hk=>hk))).2.1 (Kd.V_F (Kd.z1o (ok':=(fun k_=>(P1_ k_ ∨ w.heap.size ≤ k_))) zz61 (fun k_ hk=>hk))))) (Reps.none _ _)));intro v102 w12 ho13 hb hg_ hnew_;clear hg_ hnew_;(first|rw [← Ny101.out] at ho13|(simp only [Int.reduceToNat] at ho13;rw [← Ny101.out] at ho13));have n0_:=z1.mk (Kd.z1q zz61 (Kd.z2v ho13) hb);have n1_:=z1.mk (Kd.z2W ho13 (z5 zz28));have n2_:=z1.mk (z4 zz28 hb);clear HO1;clear HB;have HO1:=n0_;have HO103:=n1_;have HB:=n2_;clear n0_ n1_ n2_;clear hb ho13;obtain ⟨Ao14,co14,eo14⟩:=Kd.z2X HO103.out;subst eo14)|((with_reducible refine zl (f:=90) rfl ?_);refine goesL_ (some 12) rfl rfl Try.func90 zz78 rfl #[.int .i64 a0,.slice Ao14 y101.length co14,.slice none 0 0] rfl zz27 ?_;(refine (zv.calls k a0 _ _ y101 _ _ ([] : List (S30)) t104 _ ?side1 ?side2 ?side3 ?side4 A3.out).mono ?_);(case side1=>repeat (first|exact (Kd.z1T HO103.out).2.2|(with_reducible refine Kd.z1h ?_ _)|(with_reducible refine Kd.z1i ?_ _)|(with_reducible refine Kd.z1y ?_)));(case side2=>exact (Kd.z1T HO103.out).2.1);(case side3=>exact Kd.z5i _ _);(case side4=>exact Nat.le_refl _);rintro e w15 ⟨rfl,hb⟩;refine ⟨_,rfl,?_⟩;have n0_:=z1.mk (Kd.z1O zz61 hb);have n1_:=z1.mk (Kd.z2d zz37 hb);have n2_:=z1.mk (z4 zz28 hb);clear HO1;clear HO103;clear HB;have HO1:=n0_;have HO103:=n1_;have HB:=n2_;clear n0_ n1_ n2_;(try clear hb);(try clear hb2);(try clear hk);(try clear hi)))
   go_ret2
   exact ⟨_,by first|rfl|(simp [zi,zj] <;> rfl)|(simp [*,zi,zj] <;> rfl),by first|exact Kd.z3f _ _ _ _ _|exact Kd.z3P _ _ _ _ _|exact Kd.z3S _ _ _ _ _|exact Kd.z3Q _ _ _ _ _|exact Kd.z3R _ _ _ _ _,by repeat (first|(with_reducible first|exact HB.out|apply z7|apply z2|apply z6)|exact HB.out)⟩
 rw [if_pos c4] at H
 have c4b0 : (t104 == 0) = true:=beq_iff_eq.mpr c4
 have c4b1 : (t104 != 0) = false:=bne_eq_false_iff_eq.mpr c4
 clear c4
 replace H:=Option.bind_eq_some_iff.mp H
 obtain ⟨t105,A50,H⟩:=H
 replace H : ((zy.f k l1 t105).bind fun bt106=>(some (bt106.1,bt106.2))) = some (r1,r2):=H
 have A5:=z1.mk A50
 clear A50
 replace H:=Option.bind_eq_some_iff.mp H
 obtain ⟨⟨t106,t107⟩,A60,H⟩:=H
 replace H : (some (t106,t107)) = some (r1,r2):=H
 have A6:=z1.mk A60
 clear A60
 simp only [Option.some.injEq,Prod.mk.injEq] at H
 obtain ⟨rfl,rfl⟩:=H
 go_enter Try.func42,Try.ntmps42
 go_wp2_with (first|((with_reducible refine zF (N:=11) rfl ?_);refine Kd.z5j (Kd.slice 30 k30) _ 80 ?hg (N':=11) ?hd (xs:=([l1] : List (List (S30)))) (inner:=[.slice A1 l1.length c1]) (ok:=(fun k_=>(P1_ k_ ∨ w.heap.size ≤ k_))) (okp:=(fun k_=>(P1_ k_ ∨ w.heap.size ≤ k_))) ?hr ?hp (fun _ hk=>hk) ((show ∀ k_,w.heap.size ≤ k_ → (fun k_=>(P1_ k_ ∨ w.heap.size ≤ k_)) k_ from fun k_ hk=>(.inr (Nat.le_trans (z5 zz28) hk))) _ (Nat.le_refl _)) (Below.refl _ _) (Nat.le_refl _) zz81 ?_;(case hd=>rfl);(case hg=>rfl);(case hr=>first|(go_simp;done)|(go_simp;rfl));(case hp=>exact (Reps.one (show Kd.FK (Kd.slice 30 k30) _ _ l1 [.slice A1 l1.length c1] from (Kd.z1A (Kd.z1t (Kd.z1o (ok':=(fun k_=>(P1_ k_ ∨ w.heap.size ≤ k_))) (HO1.out) (fun k_ hk=>hk))).2.1 (Kd.V_F (Kd.z1o (ok':=(fun k_=>(P1_ k_ ∨ w.heap.size ≤ k_))) zz61 (fun k_ hk=>hk))))) (Reps.none _ _)));intro v102 w7 ho8 hb hg_ hnew_;clear hg_ hnew_;(first|rw [← Ny101.out] at ho8|(simp only [Int.reduceToNat] at ho8;rw [← Ny101.out] at ho8));have n0_:=z1.mk (Kd.z1q zz61 (Kd.z2v ho8) hb);have n1_:=z1.mk (Kd.z2W ho8 (z5 zz28));have n2_:=z1.mk (z4 zz28 hb);clear HO1;clear HB;have HO1:=n0_;have HO103:=n1_;have HB:=n2_;clear n0_ n1_ n2_;clear hb ho8;obtain ⟨Ao9,co9,eo9⟩:=Kd.z2X HO103.out;subst eo9)|((with_reducible refine zl (f:=90) rfl ?_);refine goesL_ (some 12) rfl rfl Try.func90 zz78 rfl #[.int .i64 a0,.slice Ao9 y101.length co9,.slice none 0 0] rfl zz27 ?_;(refine (zv.calls k a0 _ _ y101 _ _ ([] : List (S30)) t104 _ ?side1 ?side2 ?side3 ?side4 A3.out).mono ?_);(case side1=>repeat (first|exact (Kd.z1T HO103.out).2.2|(with_reducible refine Kd.z1h ?_ _)|(with_reducible refine Kd.z1i ?_ _)|(with_reducible refine Kd.z1y ?_)));(case side2=>exact (Kd.z1T HO103.out).2.1);(case side3=>exact Kd.z5i _ _);(case side4=>exact Nat.le_refl _);rintro e w10 ⟨rfl,hb⟩;refine ⟨_,rfl,?_⟩;have n0_:=z1.mk (Kd.z1O zz61 hb);have n1_:=z1.mk (Kd.z2d zz37 hb);have n2_:=z1.mk (z4 zz28 hb);clear HO1;clear HO103;clear HB;have HO1:=n0_;have HO103:=n1_;have HB:=n2_;clear n0_ n1_ n2_;(try clear hb);(try clear hb2);(try clear hk);(try clear hi))|((with_reducible refine zl (f:=92) rfl ?_);refine goesL_ (some 19) rfl rfl Try.func92 zz78 rfl #[.int .i64 a0] rfl zz27 ?_;(with_reducible refine (zP.calls k a0 t105 _ A5.out).mono ?_);rintro e w' ⟨rfl,⟨nd,rfl⟩⟩;refine ⟨_,rfl,?_⟩)|((with_reducible refine zl (f:=95) rfl ?_);refine goesL_ (some 20) rfl rfl Try.func95 zz78 rfl #[.slice A1 l1.length c1,.int .i64 t105] rfl zz27 ?_;(with_reducible refine (zy.calls k _ _ l1 t105 t106 t107 _ ?side1 ?side2 A6.out).mono ?_);(case side1=>repeat (first|exact (Kd.z1t HO1.out).2.2|(with_reducible refine Kd.z1h ?_ _)|(with_reducible refine Kd.z1i ?_ _)|(with_reducible refine Kd.z1y ?_)));(case side2=>exact (Kd.z1t HO1.out).2.1);rintro e w11 ⟨v108,rfl,ho0,hb⟩;refine ⟨_,rfl,?_⟩;have n0_:=z1.mk (Kd.z1q zz61 (Kd.z1j ho0) hb);have n1_:=z1.mk (Kd.z2w zz37 (Kd.z1j ho0) hb);have n2_:=z1.mk (Kd.z1l (Kd.z2I (M:=fun k_=>(w.heap.size ≤ k_)) ho0 (z5 zz28) (fun k_ h_=>h_)) (z5 zz28));have n3_:=z1.mk (z4 zz28 hb);clear HO1;clear HO103;clear HB;have HO1:=n0_;have HO103:=n1_;have HO109:=n2_;have HB:=n3_;clear n0_ n1_ n2_ n3_;(try clear hb);(try clear hb2);(try clear hk);(try clear hi);(try clear ho0)))
 go_ret2
 exact ⟨_,by first|rfl|(simp [zi,zj] <;> rfl)|(simp [*,zi,zj] <;> rfl),by (with_reducible repeat (first|apply Kd.zC|apply Kd.zD|apply Kd.zO));exact Kd.z16 HO109.out (fun _ hk=>hk.1),by repeat (first|(with_reducible first|exact HB.out|apply z7|apply z2|apply z6)|exact HB.out)⟩
end Go.Proofs.Ytkhmpaooinpfoaa.P
namespace Go.Proofs.Ytkhmpaooinpfoaa.P
open Go.RowKit Go.Proofs.YtkhmpaooinpfoaaW.PrintWords Go.Proofs.YtkhmpaooinpfoaaW.PrintLast Go.Proofs.YtkhmpaooinpfoaaW.PrintMore
attribute [local go_sem] z12 z14 z1b z1c zW zX z13 z15   -- for this text's walks alone
set_option linter.unusedVariables false
set_option linter.unusedSimpArgs false
def z1F.f (a0_0 : Int) (a0_1 : Int) (a1 : Int) : Option (Int):=if a1 ≥ 64 then (if 0 ≤ (IntKind.u64.wrap (wrap64 (a1 - 64))) then (some (Go.bits .and .u64 (shr .u64 a0_0 (IntKind.u64.wrap (wrap64 (a1 - 64)))) 1)) else (none)) else (if 0 ≤ (IntKind.u64.wrap (a1)) then (some (Go.bits .and .u64 (shr .u64 a0_1 (IntKind.u64.wrap (a1))) 1)) else (none))
set_option maxHeartbeats 8000000 in
set_option maxRecDepth 100000 in
theorem z1F.calls (a0_0 : Int) (a0_1 : Int) (a1 : Int) (r : Int) (w : World) (h : z1F.f a0_0 a0_1 a1 = some r) :
 Calls Try.prog 122 #[.agg #[.int .u64 a0_0,.int .u64 a0_1],.int .i64 a1] w fun e w'=>e = .returned (.int .u64 r) ∧ Below w.heap.size w w':=by
 have hu40:=Try.underlying40
 have HB:=z1.mk (Below.refl w.heap.size w)
 have H : (if a1 ≥ 64 then (if 0 ≤ (IntKind.u64.wrap (wrap64 (a1 - 64))) then (some (Go.bits .and .u64 (shr .u64 a0_0 (IntKind.u64.wrap (wrap64 (a1 - 64)))) 1)) else (none)) else (if 0 ≤ (IntKind.u64.wrap (a1)) then (some (Go.bits .and .u64 (shr .u64 a0_1 (IntKind.u64.wrap (a1))) 1)) else (none))) = some r:=h
 clear h
 by_cases c3 : a1 ≥ 64
 · rw [if_pos c3] at H
   have c3b0 : decide (64 ≤ a1) = true:=decide_eq_true c3
   clear c3
   obtain ⟨ji4,hji4⟩ : ∃ j_ : Int,(IntKind.u64.wrap (wrap64 (a1 - 64))) = j_:=⟨_,rfl⟩
   replace H : (if 0 ≤ (ji4) then (some (Go.bits .and .u64 (shr .u64 a0_0 (ji4)) 1)) else (none)) = some r:=by first|(rw [hji4] at H;exact H)|(simp only [hji4] at H ⊢;exact H)
   by_cases c5 : 0 ≤ (ji4)
   rotate_left
   · rw [if_neg c5] at H
     exact absurd H zz81
   rw [if_pos c5] at H
   have c5b0:=eq_true c5
   have c5b1 : decide (0 ≤ (ji4)) = true:=decide_eq_true c5
   clear c5
   obtain ⟨ji6,hji6⟩ : ∃ j_ : Int,(shr .u64 a0_0 (ji4)) = j_:=⟨_,rfl⟩
   replace H : (some (Go.bits .and .u64 (ji6) 1)) = some r:=by first|(rw [hji6] at H;exact H)|(simp only [hji6] at H ⊢;exact H)
   have hji6_ : (a0_0 / 2 ^ min (ji4).toNat 64) = ji6:=hji6
   have hji6z : (ji4) ≤ 64 → (a0_0 / 2 ^ (ji4).toNat) = ji6:=z2M hji6
   obtain rfl:=Option.some.inj H
   go_enter Try.func122,Try.ntmps122
   go_wp2_with (first|((with_reducible refine zF (N:=2) rfl ?_);refine zG ?hg (N:=2) ?hd (cs:=#[.int .u64 a0_0,.int .u64 a0_1]) (t:=40) ?hr ?_;(case hd=>rfl);(case hg=>rfl);(case hr=>first|(go_simp;done)|(go_simp;rfl));intro gb101 hg w7 hbox hb;have n0_:=z1.mk (z4 zz28 hb);have n1_:=z1.mk (hbox);have n2_:=z1.mk ((by rw [hg];exact (z5 zz28) : w.heap.size ≤ gb101));have n3_:=z1.mk ((by rw [hg];exact (z5 zz28) : w.heap.size ≤ gb101));clear HB;have HB:=n0_;have BK101:=n1_;have GW101:=n2_;have GE101:=n3_;clear n0_ n1_ n2_ n3_;clear hb hbox hg;have hcz8_0 : w7.cell? ⟨gb101,0,none⟩ = some (.int .u64 a0_0):=(zc BK101.out 0).trans rfl;have hcz8_1 : w7.cell? ⟨gb101,1,none⟩ = some (.int .u64 a0_1):=(zc BK101.out 1).trans rfl;have hfz8_0:=z8 BK101.out 0;have hfz8_1:=z8 BK101.out 1))
   go_ret
   exact ⟨by first|rfl|(simp [zi,zj] <;> rfl)|(simp only [← hji4,← hji6];first|rfl|(simp [zi,zj] <;> rfl))|(simp [*,zi,zj] <;> rfl),by repeat (first|(with_reducible first|exact HB.out|apply z7|apply z2|apply z6|refine zd ?_ GE101.out)|exact HB.out)⟩
 rw [if_neg c3] at H
 have c3b0 : decide (64 ≤ a1) = false:=decide_eq_false c3
 clear c3
 obtain ⟨ji9,hji9⟩ : ∃ j_ : Int,(IntKind.u64.wrap (a1)) = j_:=⟨_,rfl⟩
 replace H : (if 0 ≤ (ji9) then (some (Go.bits .and .u64 (shr .u64 a0_1 (ji9)) 1)) else (none)) = some r:=by first|(rw [hji9] at H;exact H)|(simp only [hji9] at H ⊢;exact H)
 by_cases c10 : 0 ≤ (ji9)
 rotate_left
 · rw [if_neg c10] at H
   exact absurd H zz81
 rw [if_pos c10] at H
 have c10b0:=eq_true c10
 have c10b1 : decide (0 ≤ (ji9)) = true:=decide_eq_true c10
 clear c10
 obtain ⟨ji11,hji11⟩ : ∃ j_ : Int,(shr .u64 a0_1 (ji9)) = j_:=⟨_,rfl⟩
 replace H : (some (Go.bits .and .u64 (ji11) 1)) = some r:=by first|(rw [hji11] at H;exact H)|(simp only [hji11] at H ⊢;exact H)
 have hji11_ : (a0_1 / 2 ^ min (ji9).toNat 64) = ji11:=hji11
 have hji11z : (ji9) ≤ 64 → (a0_1 / 2 ^ (ji9).toNat) = ji11:=z2M hji11
 obtain rfl:=Option.some.inj H
 go_enter Try.func122,Try.ntmps122
 go_wp2_with (first|((with_reducible refine zF (N:=2) rfl ?_);refine zG ?hg (N:=2) ?hd (cs:=#[.int .u64 a0_0,.int .u64 a0_1]) (t:=40) ?hr ?_;(case hd=>rfl);(case hg=>rfl);(case hr=>first|(go_simp;done)|(go_simp;rfl));intro gb101 hg w12 hbox hb;have n0_:=z1.mk (z4 zz28 hb);have n1_:=z1.mk (hbox);have n2_:=z1.mk ((by rw [hg];exact (z5 zz28) : w.heap.size ≤ gb101));have n3_:=z1.mk ((by rw [hg];exact (z5 zz28) : w.heap.size ≤ gb101));clear HB;have HB:=n0_;have BK101:=n1_;have GW101:=n2_;have GE101:=n3_;clear n0_ n1_ n2_ n3_;clear hb hbox hg;have hcz13_0 : w12.cell? ⟨gb101,0,none⟩ = some (.int .u64 a0_0):=(zc BK101.out 0).trans rfl;have hcz13_1 : w12.cell? ⟨gb101,1,none⟩ = some (.int .u64 a0_1):=(zc BK101.out 1).trans rfl;have hfz13_0:=z8 BK101.out 0;have hfz13_1:=z8 BK101.out 1))
 go_ret
 exact ⟨by first|rfl|(simp [zi,zj] <;> rfl)|(simp only [← hji9,← hji11];first|rfl|(simp [zi,zj] <;> rfl))|(simp [*,zi,zj] <;> rfl),by repeat (first|(with_reducible first|exact HB.out|apply z7|apply z2|apply z6|refine zd ?_ GE101.out)|exact HB.out)⟩
end Go.Proofs.Ytkhmpaooinpfoaa.P
namespace Go.Proofs.Ytkhmpaooinpfoaa.P
open Go.RowKit Go.Proofs.YtkhmpaooinpfoaaW.PrintWords Go.Proofs.YtkhmpaooinpfoaaW.PrintLast Go.Proofs.YtkhmpaooinpfoaaW.PrintMore
attribute [local go_sem] z12 z14 z1b z1c zW zX z13 z15   -- for this text's walks alone
set_option linter.unusedVariables false
set_option linter.unusedSimpArgs false
mutual
def zu.j0 : Nat → Int → List Int → Bool → Int → Int → Option (Bool)
 | 0,_,_,_,_,_=>none
 | k + 1,x0,x5,x13,x102000,x102001=>if x13 = true then (some false) else (if 0 ≤ x0 then (if x0 < (x5.length : Int) then (zu.l0 k (rd x5 x0) x102000 x102001) else (none)) else (none))
def zu.l0 : Nat → Int → Int → Int → Option (Bool)
 | 0,_,_,_=>none
 | k + 1,x6,x102000,x102001=>if x6 < 128 then ((z1F.f x102000 x102001 x6).bind fun t106=>(if t106 = 1 then (some false) else (zu.l0 k (wrap64 (x6 + 1)) x102000 x102001))) else (some true)
end
def zu.f (k : Nat) (a0 : Int) (a1_0 : Int) (a1_1 : Int) : Option (Bool):=(some (([1,2,4,8,16,32,64,128] : List Int) : List Int)).bind fun y102=>(if a0 < 0 then (zu.j0 k a0 y102 true a1_0 a1_1) else (zu.j0 k a0 y102 (decide (a0 > 7)) a1_0 a1_1))
theorem zu.z17 : ∀ k,(∀ y0 y1 y2 y3 y4,LeO (zu.j0 k y0 y1 y2 y3 y4) (zu.j0 (k + 1) y0 y1 y2 y3 y4)) ∧ (∀ y0 y1 y2,LeO (zu.l0 k y0 y1 y2) (zu.l0 (k + 1) y0 y1 y2))
 | 0=>⟨fun _ _ _ _ _ r h=>by simp [zu.j0] at h,fun _ _ _ r h=>by simp [zu.l0] at h⟩
 | k + 1=>by
  obtain ⟨ih0,ih1⟩:=zu.z17 k
  refine ⟨?_,?_⟩
  · intro y0 y1 y2 y3 y4
    unfold zu.j0
    repeat' first
    | (with_reducible exact ih0 _ _ _ _ _)
    | (with_reducible exact ih1 _ _ _)
    | (with_reducible exact LeO.refl _)
    | (with_reducible exact LeO.none _)
    | (with_reducible refine LeO.ite ?_ ?_)
    | (with_reducible refine LeO.bind ?_ (fun _=>?_))
    | exact ih0 _ _ _ _ _
    | exact ih1 _ _ _
    | exact LeO.none _
    | refine LeO.ite ?_ ?_
    | refine LeO.bind ?_ (fun _=>?_)
  · intro y0 y1 y2
    unfold zu.l0
    repeat' first
    | (with_reducible exact ih0 _ _ _ _ _)
    | (with_reducible exact ih1 _ _ _)
    | (with_reducible exact LeO.refl _)
    | (with_reducible exact LeO.none _)
    | (with_reducible refine LeO.ite ?_ ?_)
    | (with_reducible refine LeO.bind ?_ (fun _=>?_))
    | exact ih0 _ _ _ _ _
    | exact ih1 _ _ _
    | exact LeO.none _
    | refine LeO.ite ?_ ?_
    | refine LeO.bind ?_ (fun _=>?_)
theorem zu.mono : ∀ a0 a1 a2 k,LeO (zu.f k a0 a1 a2) (zu.f (k + 1) a0 a1 a2):=by
 intro a0 a1 a2 k
 obtain ⟨ih0,ih1⟩:=zu.z17 k
 unfold zu.f
 repeat' first
  | (with_reducible exact ih0 _ _ _ _ _)
  | (with_reducible exact ih1 _ _ _)
  | (with_reducible exact LeO.refl _)
  | (with_reducible exact LeO.none _)
  | (with_reducible refine LeO.ite ?_ ?_)
  | (with_reducible refine LeO.bind ?_ (fun _=>?_))
  | exact ih0 _ _ _ _ _
  | exact ih1 _ _ _
  | exact LeO.none _
  | refine LeO.ite ?_ ?_
  | refine LeO.bind ?_ (fun _=>?_)
set_option maxHeartbeats 8000000 in
set_option maxRecDepth 100000 in
theorem zu.calls (k : Nat) (a0 : Int) (a1_0 : Int) (a1_1 : Int) (r : Bool) (w : World) (h : zu.f k a0 a1_0 a1_1 = some r) :
 Calls Try.prog 85 #[.int .i64 a0,.agg #[.int .u64 a1_0,.int .u64 a1_1]] w fun e w'=>e = .returned (.bool r) ∧ Below w.heap.size w w':=by
 have hu40:=Try.underlying40
 have HB:=z1.mk (Below.refl w.heap.size w)
 have H : ((some (([1,2,4,8,16,32,64,128] : List Int) : List Int)).bind fun y102=>(if a0 < 0 then (zu.j0 k a0 y102 true a1_0 a1_1) else (zu.j0 k a0 y102 (decide (a0 > 7)) a1_0 a1_1))) = some r:=h
 clear h
 obtain ⟨y102,hy102⟩ : ∃ y_ : List Int,y_ = (([1,2,4,8,16,32,64,128] : List Int)):=⟨_,rfl⟩
 replace H : (if a0 < 0 then (zu.j0 k a0 y102 true a1_0 a1_1) else (zu.j0 k a0 y102 (decide (a0 > 7)) a1_0 a1_1)) = some r:=by first|(rw [hy102];with_reducible exact H)|(have H2_:=(Option.bind_some _ _).symm.trans H;rw [hy102];with_reducible exact H2_)|(have H2_:=(Option.bind_some _ _).symm.trans H;with_reducible exact H2_)|with_reducible exact H|(rw [hy102];exact H)|exact H
 have Ny102:=z1.mk hy102
 clear hy102
 have HC3:=z1.mk H
 clear H
 go_enter Try.func85,Try.ntmps85
 go_upto_region 2 with (first|((with_reducible refine zF (N:=3) rfl ?_);refine zG ?hg (N:=3) ?hd (cs:=#[.int .u64 a1_0,.int .u64 a1_1]) (t:=40) ?hr ?_;(case hd=>rfl);(case hg=>rfl);(case hr=>first|(go_simp;done)|(go_simp;rfl));intro gb101 hg w4 hbox hb;have n0_:=z1.mk (z4 zz28 hb);have n1_:=z1.mk (hbox);have n2_:=z1.mk ((by rw [hg];exact (z5 zz28) : w.heap.size ≤ gb101));have n3_:=z1.mk ((by rw [hg];exact (z5 zz28) : w.heap.size ≤ gb101));clear HB;have HB:=n0_;have BK101:=n1_;have GW101:=n2_;have GE101:=n3_;clear n0_ n1_ n2_ n3_;clear hb hbox hg)|((with_reducible refine zF (N:=7) rfl ?_);refine Kd.z6N (Kd.int .i64) _ 3 ?hg (N:=7) ?hd (xs:=([1,2,4,8,16,32,64,128] : List Int)) (inner:=[.int .i64 1,.int .i64 2,.int .i64 4,.int .i64 8,.int .i64 16,.int .i64 32,.int .i64 64,.int .i64 128]) (ok:=fun _=>True) (okp:=fun _=>True) ?hr ?hp (fun _ hk=>hk) trivial (Below.refl _ _) (Nat.le_refl _) zz81 ?_;(case hd=>rfl);(case hg=>rfl);(case hr=>first|(go_simp;done)|(go_simp;rfl));(case hp=>exact (Reps.one (show Kd.M (Kd.int .i64) _ _ _ 1 [.int .i64 1] from rfl) (Reps.one (show Kd.M (Kd.int .i64) _ _ _ 2 [.int .i64 2] from rfl) (Reps.one (show Kd.M (Kd.int .i64) _ _ _ 4 [.int .i64 4] from rfl) (Reps.one (show Kd.M (Kd.int .i64) _ _ _ 8 [.int .i64 8] from rfl) (Reps.one (show Kd.M (Kd.int .i64) _ _ _ 16 [.int .i64 16] from rfl) (Reps.one (show Kd.M (Kd.int .i64) _ _ _ 32 [.int .i64 32] from rfl) (Reps.one (show Kd.M (Kd.int .i64) _ _ _ 64 [.int .i64 64] from rfl) (Reps.one (show Kd.M (Kd.int .i64) _ _ _ 128 [.int .i64 128] from rfl) (Reps.none _ _))))))))));intro v103 w5 ho6 hb hg_ hnew_;clear hg_ hnew_;(first|rw [← Ny102.out] at ho6|(simp only [Int.reduceToNat] at ho6;rw [← Ny102.out] at ho6));have n0_:=z1.mk (Kd.z1l ho6 (z5 zz25));have n1_:=z1.mk (zg (g:=gb101) (o:=.cells #[.int .u64 a1_0,.int .u64 a1_1] 40 (0,0)) zz29 hb);have n2_:=z1.mk (z4 zz25 hb);clear BK101;clear HB;have HO104:=n0_;have BK101:=n1_;have HB:=n2_;clear n0_ n1_ n2_;clear hb ho6))
 (try simp only [Act.put,List.setIfInBounds_toArray,List.set_cons_zero,List.set_cons_succ])
 go_cut [13] (fun v13 wc=>∃ (kq : Nat) (x13_2 : Bool),v13 = .bool x13_2 ∧ z1 (zu.j0 kq a0 y102 x13_2 a1_0 a1_1 = some r) ∧ z1 (kq ≤ k) ∧ z1 (Kd.R (Kd.int .i64) 3 wc w.heap.size (fun _=>True) v103 y102) ∧ z1 (wc.heap[gb101]? = some (.cells #[.int .u64 a1_0,.int .u64 a1_1] 40 (0,0))) ∧ z1 (Below w.heap.size w wc))
 case first =>
  have H:=HC3.out
  clear HC3
  by_cases c7 : a0 < 0
  rotate_left
  · rw [if_neg c7] at H
    have c7b0 : decide (a0 < 0) = false:=decide_eq_false c7
    clear c7
    (first|rw [c7b0]|(simp only [zS,zZ];rw [c7b0])|skip)
    have H':=z1.mk H
    clear H
    go_wp2
    go_meet
    case rel=>exact ⟨_,(decide (a0 > 7)),zz75,H',⟨by first|omega|exact Nat.le_refl _⟩,⟨by (with_reducible repeat (first|apply Kd.zC|apply Kd.zD|apply Kd.zO));exact HO104.out⟩,⟨by (with_reducible repeat (first|refine zb ?_ _|refine zf ?_|refine za ?_ _));exact BK101.out⟩,⟨by repeat (first|(with_reducible first|exact HB.out|apply z7|apply z2|apply z6|refine zd ?_ GE101.out)|exact HB.out)⟩⟩
  rw [if_pos c7] at H
  have c7b0 : decide (a0 < 0) = true:=decide_eq_true c7
  clear c7
  (first|rw [c7b0]|(simp only [zS,zZ];rw [c7b0])|skip)
  have H':=z1.mk H
  clear H
  go_wp2
  go_meet
  case rel=>exact ⟨_,(true),zz75,H',⟨by first|omega|exact Nat.le_refl _⟩,⟨by (with_reducible repeat (first|apply Kd.zC|apply Kd.zD|apply Kd.zO));exact HO104.out⟩,⟨by (with_reducible repeat (first|refine zb ?_ _|refine zf ?_|refine za ?_ _));exact BK101.out⟩,⟨by repeat (first|(with_reducible first|exact HB.out|apply z7|apply z2|apply z6|refine zd ?_ GE101.out)|exact HB.out)⟩⟩
 case rest =>
  clear HC3
  (try clear p2);(try clear c7);(try clear c7b0)
  obtain ⟨kq,x13_2,rfl,HA,HJ2,HO_5,BK101,HB⟩:=hcut
  cases kq with
  | zero=>exact absurd HA.out (by simp [zu.j0])
  | succ kj2 =>
   have H:=HA.out
   clear HA
   simp only [zu.j0] at H
   by_cases c8 : x13_2 = true
   · subst c8
     have H1 : (some false) = some r:=by rw [if_pos rfl] at H;exact H
     clear H
     have H:=H1
     clear H1
     obtain rfl:=Option.some.inj H
     go_wp2
     go_ret
     exact ⟨by first|rfl|(simp [zi,zj] <;> rfl)|(simp [*,zi,zj] <;> rfl),by repeat (first|(with_reducible first|exact HB.out|apply z7|apply z2|apply z6|refine zd ?_ GE101.out)|exact HB.out)⟩
   replace c8:=Bool.eq_false_iff.mpr c8
   subst c8
   have H1 : (if 0 ≤ a0 then (if a0 < (y102.length : Int) then (zu.l0 kj2 (rd y102 a0) a1_0 a1_1) else (none)) else (none)) = some r:=by rw [if_neg (show ¬ (false = true) by decide)] at H;exact H
   clear H
   have H:=H1
   clear H1
   by_cases c9 : 0 ≤ a0
   rotate_left
   · rw [if_neg c9] at H
     exact absurd H zz81
   rw [if_pos c9] at H
   have c9b0 : decide (0 ≤ a0) = true:=decide_eq_true c9
   clear c9
   by_cases c10 : a0 < (y102.length : Int)
   rotate_left
   · rw [if_neg c10] at H
     exact absurd H zz81
   rw [if_pos c10] at H
   have c10b0 : decide (a0 < (y102.length : Int)) = true:=decide_eq_true c10
   clear c10
   have H':=z1.mk H
   clear H
   obtain ⟨Ao11,co11,eo11⟩:=Kd.z1p HO_5.out
   subst eo11
   have p105 : 0 ≤ (a0 : Int):=of_decide_eq_true zz74
   have q105 : a0 < (y102.length : Int):=of_decide_eq_true zz74
   obtain ⟨ad105,e105,hx105_0⟩:=Kd.at_int (Kd.zL HO_5.out).2.2 a0 p105 q105
   cases e105
   replace p105:=eq_true p105
   replace q105:=eq_true q105
   go_wp2
   go_loopg [6] kj2 (fun kq v6 w'=>∃ (x6_2 : Int),v6 = .int .i64 x6_2 ∧ z1 (zu.l0 kq x6_2 a1_0 a1_1 = some r) ∧ z1 (kq ≤ kj2) ∧ z1 (w'.heap[gb101]? = some (.cells #[.int .u64 a1_0,.int .u64 a1_1] 40 (0,0))) ∧ z1 (Below w.heap.size w w'))
   case atStart=>exact ⟨(rd y102 a0),zz75,H',⟨Nat.le_refl _⟩,⟨by (with_reducible repeat (first|refine zb ?_ _|refine zf ?_|refine za ?_ _));exact BK101.out⟩,⟨by repeat (first|(with_reducible first|exact HB.out|apply z7|apply z2|apply z6|refine zd ?_ GE101.out)|exact HB.out)⟩⟩
   case round =>
    clear H'
    (try clear c1);(try clear p1);(try clear q1);(try clear hx1);(try clear p2);(try clear c7);(try clear c7b0);(try clear c8);(try clear c9);(try clear c9b0);(try clear c10);(try clear c10b0);(try clear p10);(try clear q10);(try clear hx10);(try clear hx105_0);(try clear p105);(try clear p2);(try clear q105)
    obtain ⟨x6_2,rfl,HA,HK2,BK101,HB⟩:=hrel
    cases gk with
    | zero=>exact absurd HA.out (by simp [zu.l0])
    | succ k2 =>
     have H:=HA.out
     clear HA
     simp only [zu.l0] at H
     by_cases c12 : x6_2 < 128
     rotate_left
     · rw [if_neg c12] at H
       have c12b0 : decide (x6_2 < 128) = false:=decide_eq_false c12
       clear c12
       obtain rfl:=Option.some.inj H
       go_wp2
       go_ret
       exact ⟨by first|rfl|(simp [zi,zj] <;> rfl)|(simp [*,zi,zj] <;> rfl),by repeat (first|(with_reducible first|exact HB.out|apply z7|apply z2|apply z6|refine zd ?_ GE101.out)|exact HB.out)⟩
     rw [if_pos c12] at H
     have c12b0 : decide (x6_2 < 128) = true:=decide_eq_true c12
     clear c12
     replace H:=Option.bind_eq_some_iff.mp H
     obtain ⟨t106,A130,H⟩:=H
     replace H : (if t106 = 1 then (some false) else (zu.l0 k2 (wrap64 (x6_2 + 1)) a1_0 a1_1)) = some r:=H
     have A13:=z1.mk A130
     clear A130
     by_cases c14 : t106 = 1
     · rw [if_pos c14] at H
       have c14b0 : (t106 == 1) = true:=beq_iff_eq.mpr c14
       have c14b1 : (t106 != 1) = false:=bne_eq_false_iff_eq.mpr c14
       clear c14
       obtain rfl:=Option.some.inj H
       have hcz15_0 : wr.cell? ⟨gb101,0,none⟩ = some (.int .u64 a1_0):=(zc BK101.out 0).trans rfl
       have hcz15_1 : wr.cell? ⟨gb101,1,none⟩ = some (.int .u64 a1_1):=(zc BK101.out 1).trans rfl
       have hfz15_0:=z8 BK101.out 0
       have hfz15_1:=z8 BK101.out 1
       go_wp2_with (first|((with_reducible refine zl (f:=122) rfl ?_);refine goesL_ (some 24) rfl rfl Try.func122 zz78 rfl #[.agg #[.int .u64 a1_0,.int .u64 a1_1],.int .i64 x6_2] rfl zz27 ?_;(with_reducible refine (z1F.calls a1_0 a1_1 x6_2 t106 _ A13.out).mono ?_);rintro e w16 ⟨rfl,hb⟩;refine ⟨_,rfl,?_⟩;have n0_:=z1.mk (zg (g:=gb101) (o:=.cells #[.int .u64 a1_0,.int .u64 a1_1] 40 (0,0)) zz29 hb);have n1_:=z1.mk (z4 zz25 hb);clear BK101;clear HB;have BK101:=n0_;have HB:=n1_;clear n0_ n1_;(try clear hb);(try clear hb2);(try clear hk);(try clear hi)))
       go_ret
       exact ⟨by first|rfl|(simp [zi,zj] <;> rfl)|(simp [*,zi,zj] <;> rfl),by repeat (first|(with_reducible first|exact HB.out|apply z7|apply z2|apply z6|refine zd ?_ GE101.out)|exact HB.out)⟩
     rw [if_neg c14] at H
     have c14b0 : (t106 == 1) = false:=beq_eq_false_iff_ne.mpr c14
     have c14b1 : (t106 != 1) = true:=bne_iff_ne.mpr c14
     have H':=z1.mk H
     clear H
     have hcz17_0 : wr.cell? ⟨gb101,0,none⟩ = some (.int .u64 a1_0):=(zc BK101.out 0).trans rfl
     have hcz17_1 : wr.cell? ⟨gb101,1,none⟩ = some (.int .u64 a1_1):=(zc BK101.out 1).trans rfl
     have hfz17_0:=z8 BK101.out 0
     have hfz17_1:=z8 BK101.out 1
     go_wp2_with (first|((with_reducible refine zl (f:=122) rfl ?_);refine goesL_ (some 24) rfl rfl Try.func122 zz78 rfl #[.agg #[.int .u64 a1_0,.int .u64 a1_1],.int .i64 x6_2] rfl zz27 ?_;(with_reducible refine (z1F.calls a1_0 a1_1 x6_2 t106 _ A13.out).mono ?_);rintro e w18 ⟨rfl,hb⟩;refine ⟨_,rfl,?_⟩;have n0_:=z1.mk (zg (g:=gb101) (o:=.cells #[.int .u64 a1_0,.int .u64 a1_1] 40 (0,0)) zz29 hb);have n1_:=z1.mk (z4 zz25 hb);clear BK101;clear HB;have BK101:=n0_;have HB:=n1_;clear n0_ n1_;(try clear hb);(try clear hb2);(try clear hk);(try clear hi)))
     go_roundg k2
     case measure=>have:=HJ2.out;have:=HK2.out;omega
     case rel=>exact ⟨(wrap64 (x6_2 + 1)),zz75,H',⟨by have:=HJ2.out;have:=HK2.out;omega⟩,⟨by (with_reducible repeat (first|refine zb ?_ _|refine zf ?_|refine za ?_ _));exact BK101.out⟩,⟨by repeat (first|(with_reducible first|exact HB.out|apply z7|apply z2|apply z6|refine zd ?_ GE101.out)|exact HB.out)⟩⟩
end Go.Proofs.Ytkhmpaooinpfoaa.P
namespace Go.Proofs.Ytkhmpaooinpfoaa.P
open Go.RowKit Go.Proofs.YtkhmpaooinpfoaaW.PrintWords Go.Proofs.YtkhmpaooinpfoaaW.PrintLast Go.Proofs.YtkhmpaooinpfoaaW.PrintMore
attribute [local go_sem] z12 z14 z1b z1c zW zX z13 z15   -- for this text's walks alone
set_option linter.unusedVariables false
set_option linter.unusedSimpArgs false
def zw.l0 : Nat → Int → List (S40) → Int → Option (Bool)
 | 0,_,_,_=>none
 | k + 1,x0,x1,x5=>if x5 < (x1.length : Int) then (if 0 ≤ x5 then ((zu.f k x0 ((zT x1 x5).f0) ((zT x1 x5).f1)).bind fun t102=>(if t102 = true then (zw.l0 k x0 x1 (wrap64 (x5 + 1))) else (some false))) else (none)) else (some true)
def zw.f (k : Nat) (a0 : Int) (l1 : List (S40)) : Option (Bool):=zw.l0 k a0 l1 0
theorem zw.z17 : ∀ k,(∀ y0 y1 y2,LeO (zw.l0 k y0 y1 y2) (zw.l0 (k + 1) y0 y1 y2))
 | 0=>fun _ _ _ r h=>by simp [zw.l0] at h
 | k + 1=>by
  have ih0:=zw.z17 k
  · intro y0 y1 y2
    unfold zw.l0
    repeat' first
    | (with_reducible exact ih0 _ _ _)
    | (with_reducible exact zu.mono _ _ _ _)
    | (with_reducible exact LeO.refl _)
    | (with_reducible exact LeO.none _)
    | (with_reducible refine LeO.ite ?_ ?_)
    | (with_reducible refine LeO.bind ?_ (fun _=>?_))
    | exact ih0 _ _ _
    | exact zu.mono _ _ _ _
    | exact LeO.none _
    | refine LeO.ite ?_ ?_
    | refine LeO.bind ?_ (fun _=>?_)
theorem zw.mono : ∀ a0 a1 k,LeO (zw.f k a0 a1) (zw.f (k + 1) a0 a1):=by
 intro a0 a1 k
 have ih0:=zw.z17 k
 unfold zw.f
 repeat' first
  | (with_reducible exact ih0 _ _ _)
  | (with_reducible exact zu.mono _ _ _ _)
  | (with_reducible exact LeO.refl _)
  | (with_reducible exact LeO.none _)
  | (with_reducible refine LeO.ite ?_ ?_)
  | (with_reducible refine LeO.bind ?_ (fun _=>?_))
  | exact ih0 _ _ _
  | exact zu.mono _ _ _ _
  | exact LeO.none _
  | refine LeO.ite ?_ ?_
  | refine LeO.bind ?_ (fun _=>?_)
set_option maxHeartbeats 8000000 in
set_option maxRecDepth 100000 in
theorem zw.calls (k : Nat) (a0 : Int) (A1 : Option Addr) (c1 : Nat) (l1 : List (S40)) (r : Bool) (w : World) (hr1 : Kd.C k40 w A1 l1.length l1) (hc1 : l1.length ≤ c1) (h : zw.f k a0 l1 = some r) :
 Calls Try.prog 50 #[.int .i64 a0,.slice A1 l1.length c1] w fun e w'=>e = .returned (.bool r) ∧ Below w.heap.size w w':=by
 have hu40:=Try.underlying40
 have HR1:=z1.mk hr1
 have HC1:=z1.mk hc1
 clear hr1 hc1
 have HB:=z1.mk (Below.refl w.heap.size w)
 have H : (zw.l0 k a0 l1 0) = some r:=h
 clear h
 have H':=z1.mk H
 clear H
 go_enter Try.func50,Try.ntmps50
 go_wp2
 go_loopg [5] k (fun kq v5 w'=>∃ (x5_1 : Int),v5 = .int .i64 x5_1 ∧ z1 (zw.l0 kq a0 l1 x5_1 = some r) ∧ z1 (kq ≤ k) ∧ z1 (Below w.heap.size w w'))
 case atStart=>exact ⟨(0),zz75,H',⟨Nat.le_refl _⟩,⟨by repeat (first|(with_reducible first|exact HB.out|apply z7|apply z2|apply z6)|exact HB.out)⟩⟩
 case round =>
  clear H'
  (try clear c1);(try clear p2)
  obtain ⟨x5_1,rfl,HA,HK1,HB⟩:=hrel
  cases gk with
  | zero=>exact absurd HA.out (by simp [zw.l0])
  | succ k1 =>
   have H:=HA.out
   clear HA
   simp only [zw.l0] at H
   by_cases c3 : x5_1 < (l1.length : Int)
   rotate_left
   · rw [if_neg c3] at H
     have c3b0 : decide (x5_1 < (l1.length : Int)) = false:=decide_eq_false c3
     clear c3
     obtain rfl:=Option.some.inj H
     go_wp2
     go_ret
     exact ⟨by first|rfl|(simp [zi,zj] <;> rfl)|(simp [*,zi,zj] <;> rfl),by repeat (first|(with_reducible first|exact HB.out|apply z7|apply z2|apply z6)|exact HB.out)⟩
   rw [if_pos c3] at H
   have c3b0 : decide (x5_1 < (l1.length : Int)) = true:=decide_eq_true c3
   clear c3
   by_cases c4 : 0 ≤ x5_1
   rotate_left
   · rw [if_neg c4] at H
     exact absurd H zz81
   rw [if_pos c4] at H
   have c4b0 : decide (0 ≤ x5_1) = true:=decide_eq_true c4
   clear c4
   replace H:=Option.bind_eq_some_iff.mp H
   obtain ⟨t102,A50,H⟩:=H
   replace H : (if t102 = true then (zw.l0 k1 a0 l1 (wrap64 (x5_1 + 1))) else (some false)) = some r:=H
   have A5:=z1.mk A50
   clear A50
   by_cases c6 : t102 = true
   rotate_left
   · replace c6:=Bool.eq_false_iff.mpr c6
     subst c6
     have H1 : (some false) = some r:=by rw [if_neg (show ¬ (false = true) by decide)] at H;exact H
     clear H
     have H:=H1
     clear H1
     obtain rfl:=Option.some.inj H
     have p101 : 0 ≤ (x5_1 : Int):=of_decide_eq_true zz74
     have q101 : x5_1 < (l1.length : Int):=of_decide_eq_true zz74
     obtain ⟨ad101,e101,hx101_0,hx101_1⟩:=z31 HR1.out x5_1 p101 q101
     cases e101
     replace hx101_0:=(HB.out.cell (World.block_lt_of_cell? w _ hx101_0)).trans hx101_0
     replace hx101_1:=(HB.out.cell (World.block_lt_of_cell? w _ hx101_1)).trans hx101_1
     replace p101:=eq_true p101
     replace q101:=eq_true q101
     go_wp2_with (first|((with_reducible refine zl (f:=85) rfl ?_);refine goesL_ (some 17) rfl rfl Try.func85 zz78 rfl #[.int .i64 a0,.agg #[.int .u64 ((zT l1 x5_1).f0),.int .u64 ((zT l1 x5_1).f1)]] rfl zz27 ?_;(with_reducible refine (zu.calls k1 a0 ((zT l1 x5_1).f0) ((zT l1 x5_1).f1) false _ A5.out).mono ?_);rintro e w8 ⟨rfl,hb⟩;refine ⟨_,rfl,?_⟩;have n0_:=z1.mk (z4 zz28 hb);clear HB;have HB:=n0_;clear n0_;(try clear hb);(try clear hb2);(try clear hk);(try clear hi)))
     go_ret
     exact ⟨by first|rfl|(simp [zi,zj] <;> rfl)|(simp [*,zi,zj] <;> rfl),by repeat (first|(with_reducible first|exact HB.out|apply z7|apply z2|apply z6)|exact HB.out)⟩
   subst c6
   have H1 : (zw.l0 k1 a0 l1 (wrap64 (x5_1 + 1))) = some r:=by rw [if_pos rfl] at H;exact H
   clear H
   have H:=H1
   clear H1
   have H':=z1.mk H
   clear H
   have p101 : 0 ≤ (x5_1 : Int):=of_decide_eq_true zz74
   have q101 : x5_1 < (l1.length : Int):=of_decide_eq_true zz74
   obtain ⟨ad101,e101,hx101_0,hx101_1⟩:=z31 HR1.out x5_1 p101 q101
   cases e101
   replace hx101_0:=(HB.out.cell (World.block_lt_of_cell? w _ hx101_0)).trans hx101_0
   replace hx101_1:=(HB.out.cell (World.block_lt_of_cell? w _ hx101_1)).trans hx101_1
   replace p101:=eq_true p101
   replace q101:=eq_true q101
   go_wp2_with (first|((with_reducible refine zl (f:=85) rfl ?_);refine goesL_ (some 17) rfl rfl Try.func85 zz78 rfl #[.int .i64 a0,.agg #[.int .u64 ((zT l1 x5_1).f0),.int .u64 ((zT l1 x5_1).f1)]] rfl zz27 ?_;(with_reducible refine (zu.calls k1 a0 ((zT l1 x5_1).f0) ((zT l1 x5_1).f1) true _ A5.out).mono ?_);rintro e w7 ⟨rfl,hb⟩;refine ⟨_,rfl,?_⟩;have n0_:=z1.mk (z4 zz28 hb);clear HB;have HB:=n0_;clear n0_;(try clear hb);(try clear hb2);(try clear hk);(try clear hi)))
   go_roundg k1
   case measure=>have:=HK1.out;omega
   case rel=>exact ⟨(wrap64 (x5_1 + 1)),zz75,H',⟨by have:=HK1.out;omega⟩,⟨by repeat (first|(with_reducible first|exact HB.out|apply z7|apply z2|apply z6)|exact HB.out)⟩⟩
end Go.Proofs.Ytkhmpaooinpfoaa.P
namespace Go.Proofs.Ytkhmpaooinpfoaa.P
open Go.RowKit Go.Proofs.YtkhmpaooinpfoaaW.PrintWords Go.Proofs.YtkhmpaooinpfoaaW.PrintLast Go.Proofs.YtkhmpaooinpfoaaW.PrintMore
attribute [local go_sem] z12 z14 z1b z1c zW zX z13 z15   -- for this text's walks alone
set_option linter.unusedVariables false
set_option linter.unusedSimpArgs false
def zH.l0 : Nat → Int → Int → Int → Option (Int)
 | 0,_,_,_=>none
 | k + 1,x0,x3,x4=>if x4 < x0 then (zH.l0 k x0 (wrap64 (2 * x3)) (wrap64 (x4 + 1))) else (some x3)
def zH.f (k : Nat) (a0 : Int) : Option (Int):=zH.l0 k a0 1 0
theorem zH.z17 : ∀ k,(∀ y0 y1 y2,LeO (zH.l0 k y0 y1 y2) (zH.l0 (k + 1) y0 y1 y2))
 | 0=>fun _ _ _ r h=>by simp [zH.l0] at h
 | k + 1=>by
  have ih0:=zH.z17 k
  · intro y0 y1 y2
    unfold zH.l0
    repeat' first
    | (with_reducible exact ih0 _ _ _)
    | (with_reducible exact LeO.refl _)
    | (with_reducible exact LeO.none _)
    | (with_reducible refine LeO.ite ?_ ?_)
    | (with_reducible refine LeO.bind ?_ (fun _=>?_))
    | exact ih0 _ _ _
    | exact LeO.none _
    | refine LeO.ite ?_ ?_
    | refine LeO.bind ?_ (fun _=>?_)
theorem zH.mono : ∀ a0 k,LeO (zH.f k a0) (zH.f (k + 1) a0):=by
 intro a0 k
 have ih0:=zH.z17 k
 unfold zH.f
 repeat' first
  | (with_reducible exact ih0 _ _ _)
  | (with_reducible exact LeO.refl _)
  | (with_reducible exact LeO.none _)
  | (with_reducible refine LeO.ite ?_ ?_)
  | (with_reducible refine LeO.bind ?_ (fun _=>?_))
  | exact ih0 _ _ _
  | exact LeO.none _
  | refine LeO.ite ?_ ?_
  | refine LeO.bind ?_ (fun _=>?_)
set_option maxHeartbeats 8000000 in
set_option maxRecDepth 100000 in
theorem zH.calls (k : Nat) (a0 : Int) (r : Int) (w : World) (h : zH.f k a0 = some r) :
 Calls Try.prog 67 #[.int .i64 a0] w fun e w'=>e = .returned (.int .i64 r) ∧ Drawn0 w w':=by
 have H : (zH.l0 k a0 1 0) = some r:=h
 clear h
 have H':=z1.mk H
 clear H
 go_enter Try.func67,Try.ntmps67
 go_wp2
 go_loopg [3,4] k (fun kq v3 v4 w'=>∃ (x3_1 : Int) (x4_1 : Int),v3 = .int .i64 x3_1 ∧ v4 = .int .i64 x4_1 ∧ z1 (zH.l0 kq a0 x3_1 x4_1 = some r) ∧ z1 (kq ≤ k) ∧ Drawn0 w w')
 case atStart=>exact ⟨(1),(0),zz75,zz75,H',⟨Nat.le_refl _⟩,by repeat (first|exact Drawn0.refl _|apply Drawn0.step)⟩
 case round =>
  clear H'
  obtain ⟨x3_1,x4_1,rfl,rfl,HA,HK1,⟨m1,rfl⟩⟩:=hrel
  cases gk with
  | zero=>exact absurd HA.out (by simp [zH.l0])
  | succ k1 =>
   have H:=HA.out
   clear HA
   simp only [zH.l0] at H
   by_cases c2 : x4_1 < a0
   rotate_left
   · rw [if_neg c2] at H
     have c2b0 : decide (x4_1 < a0) = false:=decide_eq_false c2
     clear c2
     obtain rfl:=Option.some.inj H
     go_wp2
     go_ret
     exact ⟨by first|rfl|(simp;done)|(simp [*];done),by repeat (first|exact Drawn0.refl _|apply Drawn0.step)⟩
   rw [if_pos c2] at H
   have c2b0 : decide (x4_1 < a0) = true:=decide_eq_true c2
   clear c2
   have H':=z1.mk H
   clear H
   go_wp2
   go_roundg k1
   case measure=>have:=HK1.out;omega
   case rel=>exact ⟨(wrap64 (2 * x3_1)),(wrap64 (x4_1 + 1)),zz75,zz75,H',⟨by have:=HK1.out;omega⟩,by repeat (first|exact Drawn0.refl _|apply Drawn0.step)⟩
end Go.Proofs.Ytkhmpaooinpfoaa.P
namespace Go.Proofs.Ytkhmpaooinpfoaa.P
open Go.RowKit Go.Proofs.YtkhmpaooinpfoaaW.PrintWords Go.Proofs.YtkhmpaooinpfoaaW.PrintLast Go.Proofs.YtkhmpaooinpfoaaW.PrintMore
attribute [local go_sem] z12 z14 z1b z1c zW zX z13 z15   -- for this text's walks alone
set_option linter.unusedVariables false
set_option linter.unusedSimpArgs false
def zQ.f (k : Nat) (a0 : Int) : Option (Int):=(zH.f k a0).bind fun t101=>(some t101)
theorem zQ.mono : ∀ a0 k,LeO (zQ.f k a0) (zQ.f (k + 1) a0):=by
 intro a0 k
 unfold zQ.f
 repeat' first
  | (with_reducible exact zH.mono _ _)
  | (with_reducible exact LeO.refl _)
  | (with_reducible exact LeO.none _)
  | (with_reducible refine LeO.ite ?_ ?_)
  | (with_reducible refine LeO.bind ?_ (fun _=>?_))
  | exact zH.mono _ _
  | exact LeO.none _
  | refine LeO.ite ?_ ?_
  | refine LeO.bind ?_ (fun _=>?_)
set_option maxHeartbeats 8000000 in
set_option maxRecDepth 100000 in
theorem zQ.calls (k : Nat) (a0 : Int) (r : Int) (w : World) (h : zQ.f k a0 = some r) :
 Calls Try.prog 96 #[.int .i64 a0] w fun e w'=>e = .returned (.int .i64 r) ∧ Drawn0 w w':=by
 have H : ((zH.f k a0).bind fun t101=>(some t101)) = some r:=h
 clear h
 replace H:=Option.bind_eq_some_iff.mp H
 obtain ⟨t101,A20,H⟩:=H
 replace H : (some t101) = some r:=H
 have A2:=z1.mk A20
 clear A20
 obtain rfl:=Option.some.inj H
 go_enter Try.func96,Try.ntmps96
 go_wp2_with (first|((with_reducible refine zl (f:=67) rfl ?_);refine goesL_ (some 4) rfl rfl Try.func67 zz78 rfl #[.int .i64 a0] rfl zz27 ?_;(with_reducible refine (zH.calls k a0 t101 _ A2.out).mono ?_);rintro e w' ⟨rfl,⟨nd,rfl⟩⟩;refine ⟨_,rfl,?_⟩))
 go_ret
 exact ⟨by first|rfl|(simp;done)|(simp [*];done),by repeat (first|exact Drawn0.refl _|apply Drawn0.step)⟩
end Go.Proofs.Ytkhmpaooinpfoaa.P
namespace Go.Proofs.Ytkhmpaooinpfoaa.P
open Go.RowKit Go.Proofs.YtkhmpaooinpfoaaW.PrintWords Go.Proofs.YtkhmpaooinpfoaaW.PrintLast Go.Proofs.YtkhmpaooinpfoaaW.PrintMore
attribute [local go_sem] z12 z14 z1b z1c zW zX z13 z15   -- for this text's walks alone
set_option linter.unusedVariables false
set_option linter.unusedSimpArgs false
mutual
def zh.j0 : Nat → Int → List (S40) → List (S40) → Bool → Option (Int)
 | 0,_,_,_,_=>none
 | k + 1,x0,x1,x2,x12=>if x12 = true then (some 1) else ((zQ.f k x0).bind fun t101=>(if (x1.length : Int) = t101 then ((zQ.f k x0).bind fun t102=>(zh.j1 k x0 x1 x2 ((x2.length : Int) != t102))) else (zh.j1 k x0 x1 x2 true)))
def zh.j1 : Nat → Int → List (S40) → List (S40) → Bool → Option (Int)
 | 0,_,_,_,_=>none
 | k + 1,x0,x1,x2,x24=>if x24 = true then (some 6) else ((zw.f k x0 x1).bind fun t103=>(if t103 = true then ((zw.f k x0 x2).bind fun t104=>(if t104 = true then (some 0) else (some 5))) else (some 5)))
end
def zh.f (k : Nat) (a0 : Int) (l1 : List (S40)) (l2 : List (S40)) : Option (Int):=if a0 < 0 then (zh.j0 k a0 l1 l2 true) else (zh.j0 k a0 l1 l2 (decide (a0 > 7)))
theorem zh.z17 : ∀ k,(∀ y0 y1 y2 y3,LeO (zh.j0 k y0 y1 y2 y3) (zh.j0 (k + 1) y0 y1 y2 y3)) ∧ (∀ y0 y1 y2 y3,LeO (zh.j1 k y0 y1 y2 y3) (zh.j1 (k + 1) y0 y1 y2 y3))
 | 0=>⟨fun _ _ _ _ r h=>by simp [zh.j0] at h,fun _ _ _ _ r h=>by simp [zh.j1] at h⟩
 | k + 1=>by
  obtain ⟨ih0,ih1⟩:=zh.z17 k
  refine ⟨?_,?_⟩
  · intro y0 y1 y2 y3
    unfold zh.j0
    repeat' first
    | (with_reducible exact ih0 _ _ _ _)
    | (with_reducible exact ih1 _ _ _ _)
    | (with_reducible exact zw.mono _ _ _)
    | (with_reducible exact zQ.mono _ _)
    | (with_reducible exact LeO.refl _)
    | (with_reducible exact LeO.none _)
    | (with_reducible refine LeO.ite ?_ ?_)
    | (with_reducible refine LeO.bind ?_ (fun _=>?_))
    | exact ih0 _ _ _ _
    | exact ih1 _ _ _ _
    | exact zw.mono _ _ _
    | exact zQ.mono _ _
    | exact LeO.none _
    | refine LeO.ite ?_ ?_
    | refine LeO.bind ?_ (fun _=>?_)
  · intro y0 y1 y2 y3
    unfold zh.j1
    repeat' first
    | (with_reducible exact ih0 _ _ _ _)
    | (with_reducible exact ih1 _ _ _ _)
    | (with_reducible exact zw.mono _ _ _)
    | (with_reducible exact zQ.mono _ _)
    | (with_reducible exact LeO.refl _)
    | (with_reducible exact LeO.none _)
    | (with_reducible refine LeO.ite ?_ ?_)
    | (with_reducible refine LeO.bind ?_ (fun _=>?_))
    | exact ih0 _ _ _ _
    | exact ih1 _ _ _ _
    | exact zw.mono _ _ _
    | exact zQ.mono _ _
    | exact LeO.none _
    | refine LeO.ite ?_ ?_
    | refine LeO.bind ?_ (fun _=>?_)
theorem zh.mono : ∀ a0 a1 a2 k,LeO (zh.f k a0 a1 a2) (zh.f (k + 1) a0 a1 a2):=by
 intro a0 a1 a2 k
 obtain ⟨ih0,ih1⟩:=zh.z17 k
 unfold zh.f
 repeat' first
  | (with_reducible exact ih0 _ _ _ _)
  | (with_reducible exact ih1 _ _ _ _)
  | (with_reducible exact zw.mono _ _ _)
  | (with_reducible exact zQ.mono _ _)
  | (with_reducible exact LeO.refl _)
  | (with_reducible exact LeO.none _)
  | (with_reducible refine LeO.ite ?_ ?_)
  | (with_reducible refine LeO.bind ?_ (fun _=>?_))
  | exact ih0 _ _ _ _
  | exact ih1 _ _ _ _
  | exact zw.mono _ _ _
  | exact zQ.mono _ _
  | exact LeO.none _
  | refine LeO.ite ?_ ?_
  | refine LeO.bind ?_ (fun _=>?_)
set_option maxHeartbeats 8000000 in
set_option maxRecDepth 100000 in
theorem zh.calls (k : Nat) (a0 : Int) (A1 : Option Addr) (c1 : Nat) (l1 : List (S40)) (A2 : Option Addr) (c2 : Nat) (l2 : List (S40)) (r : Int) (w : World) (hr1 : Kd.C k40 w A1 l1.length l1) (hc1 : l1.length ≤ c1) (hr2 : Kd.C k40 w A2 l2.length l2) (hc2 : l2.length ≤ c2) (h : zh.f k a0 l1 l2 = some r) :
 Calls Try.prog 43 #[.int .i64 a0,.slice A1 l1.length c1,.slice A2 l2.length c2] w fun e w'=>e = .returned (.int .i64 r) ∧ Below w.heap.size w w':=by
 have HR1:=z1.mk hr1
 have HC1:=z1.mk hc1
 clear hr1 hc1
 have HR2:=z1.mk hr2
 have HC2:=z1.mk hc2
 clear hr2 hc2
 have HB:=z1.mk (Below.refl w.heap.size w)
 have H : (if a0 < 0 then (zh.j0 k a0 l1 l2 true) else (zh.j0 k a0 l1 l2 (decide (a0 > 7)))) = some r:=h
 clear h
 have HC4:=z1.mk H
 clear H
 go_enter Try.func43,Try.ntmps43
 go_upto_region 1 with (fail)
 go_cut [12] (fun v12 wc=>∃ (kq : Nat) (x12_3 : Bool),v12 = .bool x12_3 ∧ z1 (zh.j0 kq a0 l1 l2 x12_3 = some r) ∧ z1 (kq ≤ k) ∧ z1 (Below w.heap.size w wc))
 case first =>
  have H:=HC4.out
  clear HC4
  by_cases c5 : a0 < 0
  rotate_left
  · rw [if_neg c5] at H
    have c5b0 : decide (a0 < 0) = false:=decide_eq_false c5
    clear c5
    (first|rw [c5b0]|(simp only [zS,zZ];rw [c5b0])|skip)
    have H':=z1.mk H
    clear H
    go_wp2
    go_meet
    case rel=>exact ⟨_,(decide (a0 > 7)),zz75,H',⟨by first|omega|exact Nat.le_refl _⟩,⟨by repeat (first|(with_reducible first|exact HB.out|apply z7|apply z2|apply z6)|exact HB.out)⟩⟩
  rw [if_pos c5] at H
  have c5b0 : decide (a0 < 0) = true:=decide_eq_true c5
  clear c5
  (first|rw [c5b0]|(simp only [zS,zZ];rw [c5b0])|skip)
  have H':=z1.mk H
  clear H
  go_wp2
  go_meet
  case rel=>exact ⟨_,(true),zz75,H',⟨by first|omega|exact Nat.le_refl _⟩,⟨by repeat (first|(with_reducible first|exact HB.out|apply z7|apply z2|apply z6)|exact HB.out)⟩⟩
 case rest =>
  clear HC4
  (try clear c1);(try clear c2);(try clear p2);(try clear c4);(try clear c5);(try clear c5b0)
  obtain ⟨kq,x12_3,rfl,HA,HJ3,HB⟩:=hcut
  cases kq with
  | zero=>exact absurd HA.out (by simp [zh.j0])
  | succ kj3 =>
   have H:=HA.out
   clear HA
   simp only [zh.j0] at H
   by_cases c6 : x12_3 = true
   · subst c6
     have H1 : (some 1) = some r:=by rw [if_pos rfl] at H;exact H
     clear H
     have H:=H1
     clear H1
     obtain rfl:=Option.some.inj H
     go_wp2
     go_ret
     exact ⟨by first|rfl|(simp [zi,zj] <;> rfl)|(simp [*,zi,zj] <;> rfl),by repeat (first|(with_reducible first|exact HB.out|apply z7|apply z2|apply z6)|exact HB.out)⟩
   replace c6:=Bool.eq_false_iff.mpr c6
   subst c6
   have H1 : ((zQ.f kj3 a0).bind fun t101=>(if (l1.length : Int) = t101 then ((zQ.f kj3 a0).bind fun t102=>(zh.j1 kj3 a0 l1 l2 ((l2.length : Int) != t102))) else (zh.j1 kj3 a0 l1 l2 true))) = some r:=by rw [if_neg (show ¬ (false = true) by decide)] at H;exact H
   clear H
   have H:=H1
   clear H1
   have HC7:=z1.mk H
   clear H
   go_upto_region 3 with (fail)
   go_cut [24] (fun v24 wc=>∃ (kq : Nat) (x24_6 : Bool),v24 = .bool x24_6 ∧ z1 (zh.j1 kq a0 l1 l2 x24_6 = some r) ∧ z1 (kq ≤ kj3) ∧ z1 (Below w.heap.size w wc))
   case first =>
    have H:=HC7.out
    clear HC7
    replace H:=Option.bind_eq_some_iff.mp H
    obtain ⟨t101,A80,H⟩:=H
    replace H : (if (l1.length : Int) = t101 then ((zQ.f kj3 a0).bind fun t102=>(zh.j1 kj3 a0 l1 l2 ((l2.length : Int) != t102))) else (zh.j1 kj3 a0 l1 l2 true)) = some r:=H
    have A8:=z1.mk A80
    clear A80
    by_cases c9 : (l1.length : Int) = t101
    rotate_left
    · rw [if_neg c9] at H
      have c9b0 : ((l1.length : Int) == t101) = false:=beq_eq_false_iff_ne.mpr c9
      have c9b1 : ((l1.length : Int) != t101) = true:=bne_iff_ne.mpr c9
      (first|rw [c9b0]|(simp only [zS,zZ];rw [c9b0])|skip)
      have H':=z1.mk H
      clear H
      go_wp2_with (first|((with_reducible refine zl (f:=96) rfl ?_);refine goesL_ (some 16) rfl rfl Try.func96 zz78 rfl #[.int .i64 a0] rfl zz27 ?_;(with_reducible refine (zQ.calls kj3 a0 t101 _ A8.out).mono ?_);rintro e w' ⟨rfl,⟨nd,rfl⟩⟩;refine ⟨_,rfl,?_⟩))
      go_meet
      case rel=>exact ⟨_,(true),zz75,H',⟨by have:=HJ3.out;first|omega|exact Nat.le_refl _⟩,⟨by repeat (first|(with_reducible first|exact HB.out|apply z7|apply z2|apply z6)|exact HB.out)⟩⟩
    rw [if_pos c9] at H
    have c9b0 : ((l1.length : Int) == t101) = true:=beq_iff_eq.mpr c9
    have c9b1 : ((l1.length : Int) != t101) = false:=bne_eq_false_iff_eq.mpr c9
    clear c9
    (first|rw [c9b0]|(simp only [zS,zZ];rw [c9b0])|skip)
    replace H:=Option.bind_eq_some_iff.mp H
    obtain ⟨t102,A100,H⟩:=H
    replace H : (zh.j1 kj3 a0 l1 l2 ((l2.length : Int) != t102)) = some r:=H
    have A10:=z1.mk A100
    clear A100
    have H':=z1.mk H
    clear H
    go_wp2_with (first|((with_reducible refine zl (f:=96) rfl ?_);refine goesL_ (some 16) rfl rfl Try.func96 zz78 rfl #[.int .i64 a0] rfl zz27 ?_;(with_reducible refine (zQ.calls kj3 a0 t101 _ A8.out).mono ?_);rintro e w' ⟨rfl,⟨nd,rfl⟩⟩;refine ⟨_,rfl,?_⟩)|(go_at_call 96;(with_reducible refine (zQ.calls kj3 a0 t102 _ A10.out).mono ?_);rintro e w' ⟨rfl,⟨nd,rfl⟩⟩))
    go_meet
    case rel=>exact ⟨_,(((l2.length : Int) != t102)),zz75,H',⟨by have:=HJ3.out;first|omega|exact Nat.le_refl _⟩,⟨by repeat (first|(with_reducible first|exact HB.out|apply z7|apply z2|apply z6)|exact HB.out)⟩⟩
   case rest =>
    clear HC7
    (try clear c1);(try clear c2);(try clear p2);(try clear c4);(try clear c5);(try clear c5b0);(try clear c6);(try clear c9);(try clear c9b0);(try clear c9b1);(try clear p2)
    obtain ⟨kq,x24_6,rfl,HA,HJ6,HB⟩:=hcut
    cases kq with
    | zero=>exact absurd HA.out (by simp [zh.j1])
    | succ kj6 =>
     have H:=HA.out
     clear HA
     simp only [zh.j1] at H
     by_cases c11 : x24_6 = true
     · subst c11
       have H1 : (some 6) = some r:=by rw [if_pos rfl] at H;exact H
       clear H
       have H:=H1
       clear H1
       obtain rfl:=Option.some.inj H
       go_wp2
       go_ret
       exact ⟨by first|rfl|(simp [zi,zj] <;> rfl)|(simp [*,zi,zj] <;> rfl),by repeat (first|(with_reducible first|exact HB.out|apply z7|apply z2|apply z6)|exact HB.out)⟩
     replace c11:=Bool.eq_false_iff.mpr c11
     subst c11
     have H1 : ((zw.f kj6 a0 l1).bind fun t103=>(if t103 = true then ((zw.f kj6 a0 l2).bind fun t104=>(if t104 = true then (some 0) else (some 5))) else (some 5))) = some r:=by rw [if_neg (show ¬ (false = true) by decide)] at H;exact H
     clear H
     have H:=H1
     clear H1
     replace H:=Option.bind_eq_some_iff.mp H
     obtain ⟨t103,A120,H⟩:=H
     replace H : (if t103 = true then ((zw.f kj6 a0 l2).bind fun t104=>(if t104 = true then (some 0) else (some 5))) else (some 5)) = some r:=H
     have A12:=z1.mk A120
     clear A120
     by_cases c13 : t103 = true
     rotate_left
     · replace c13:=Bool.eq_false_iff.mpr c13
       subst c13
       have H1 : (some 5) = some r:=by rw [if_neg (show ¬ (false = true) by decide)] at H;exact H
       clear H
       have H:=H1
       clear H1
       obtain rfl:=Option.some.inj H
       go_wp2_with (first|((with_reducible refine zl (f:=50) rfl ?_);refine goesL_ (some 27) rfl rfl Try.func50 zz78 rfl #[.int .i64 a0,.slice A1 l1.length c1] rfl zz27 ?_;(with_reducible refine (zw.calls kj6 a0 _ _ l1 false _ ?side1 ?side2 A12.out).mono ?_);(case side1=>repeat (first|exact (Kd.z1X HR1.out HB.out)|(with_reducible refine Kd.z1h ?_ _)|(with_reducible refine Kd.z1i ?_ _)|(with_reducible refine Kd.z1y ?_)));(case side2=>exact HC1.out);rintro e w20 ⟨rfl,hb⟩;refine ⟨_,rfl,?_⟩;have n0_:=z1.mk (z4 zz28 hb);clear HB;have HB:=n0_;clear n0_;(try clear hb);(try clear hb2);(try clear hk);(try clear hi)))
       go_ret
       exact ⟨by first|rfl|(simp [zi,zj] <;> rfl)|(simp [*,zi,zj] <;> rfl),by repeat (first|(with_reducible first|exact HB.out|apply z7|apply z2|apply z6)|exact HB.out)⟩
     subst c13
     have H1 : ((zw.f kj6 a0 l2).bind fun t104=>(if t104 = true then (some 0) else (some 5))) = some r:=by rw [if_pos rfl] at H;exact H
     clear H
     have H:=H1
     clear H1
     replace H:=Option.bind_eq_some_iff.mp H
     obtain ⟨t104,A140,H⟩:=H
     replace H : (if t104 = true then (some 0) else (some 5)) = some r:=H
     have A14:=z1.mk A140
     clear A140
     by_cases c15 : t104 = true
     · subst c15
       have H1 : (some 0) = some r:=by rw [if_pos rfl] at H;exact H
       clear H
       have H:=H1
       clear H1
       obtain rfl:=Option.some.inj H
       go_wp2_with (first|((with_reducible refine zl (f:=50) rfl ?_);refine goesL_ (some 27) rfl rfl Try.func50 zz78 rfl #[.int .i64 a0,.slice A1 l1.length c1] rfl zz27 ?_;(with_reducible refine (zw.calls kj6 a0 _ _ l1 true _ ?side1 ?side2 A12.out).mono ?_);(case side1=>repeat (first|exact (Kd.z1X HR1.out HB.out)|(with_reducible refine Kd.z1h ?_ _)|(with_reducible refine Kd.z1i ?_ _)|(with_reducible refine Kd.z1y ?_)));(case side2=>exact HC1.out);rintro e w16 ⟨rfl,hb⟩;refine ⟨_,rfl,?_⟩;have n0_:=z1.mk (z4 zz28 hb);clear HB;have HB:=n0_;clear n0_;(try clear hb);(try clear hb2);(try clear hk);(try clear hi))|(go_at_call 50;(with_reducible refine (zw.calls kj6 a0 _ _ l2 true _ ?side1 ?side2 A14.out).mono ?_);(case side1=>repeat (first|exact (Kd.z1X HR2.out HB.out)|(with_reducible refine Kd.z1h ?_ _)|(with_reducible refine Kd.z1i ?_ _)|(with_reducible refine Kd.z1y ?_)));(case side2=>exact HC2.out);rintro e w17 ⟨rfl,hb⟩;have n0_:=z1.mk (z4 zz28 hb);clear HB;have HB:=n0_;clear n0_;(try clear hb);(try clear hb2);(try clear hk);(try clear hi)))
       go_ret
       exact ⟨by first|rfl|(simp [zi,zj] <;> rfl)|(simp [*,zi,zj] <;> rfl),by repeat (first|(with_reducible first|exact HB.out|apply z7|apply z2|apply z6)|exact HB.out)⟩
     replace c15:=Bool.eq_false_iff.mpr c15
     subst c15
     have H1 : (some 5) = some r:=by rw [if_neg (show ¬ (false = true) by decide)] at H;exact H
     clear H
     have H:=H1
     clear H1
     obtain rfl:=Option.some.inj H
     go_wp2_with (first|((with_reducible refine zl (f:=50) rfl ?_);refine goesL_ (some 27) rfl rfl Try.func50 zz78 rfl #[.int .i64 a0,.slice A1 l1.length c1] rfl zz27 ?_;(with_reducible refine (zw.calls kj6 a0 _ _ l1 true _ ?side1 ?side2 A12.out).mono ?_);(case side1=>repeat (first|exact (Kd.z1X HR1.out HB.out)|(with_reducible refine Kd.z1h ?_ _)|(with_reducible refine Kd.z1i ?_ _)|(with_reducible refine Kd.z1y ?_)));(case side2=>exact HC1.out);rintro e w18 ⟨rfl,hb⟩;refine ⟨_,rfl,?_⟩;have n0_:=z1.mk (z4 zz28 hb);clear HB;have HB:=n0_;clear n0_;(try clear hb);(try clear hb2);(try clear hk);(try clear hi))|(go_at_call 50;(with_reducible refine (zw.calls kj6 a0 _ _ l2 false _ ?side1 ?side2 A14.out).mono ?_);(case side1=>repeat (first|exact (Kd.z1X HR2.out HB.out)|(with_reducible refine Kd.z1h ?_ _)|(with_reducible refine Kd.z1i ?_ _)|(with_reducible refine Kd.z1y ?_)));(case side2=>exact HC2.out);rintro e w19 ⟨rfl,hb⟩;have n0_:=z1.mk (z4 zz28 hb);clear HB;have HB:=n0_;clear n0_;(try clear hb);(try clear hb2);(try clear hk);(try clear hi)))
     go_ret
     exact ⟨by first|rfl|(simp [zi,zj] <;> rfl)|(simp [*,zi,zj] <;> rfl),by repeat (first|(with_reducible first|exact HB.out|apply z7|apply z2|apply z6)|exact HB.out)⟩
end Go.Proofs.Ytkhmpaooinpfoaa.P
namespace Go.Proofs.Ytkhmpaooinpfoaa.P
open Go.RowKit Go.Proofs.YtkhmpaooinpfoaaW.PrintWords Go.Proofs.YtkhmpaooinpfoaaW.PrintLast Go.Proofs.YtkhmpaooinpfoaaW.PrintMore
attribute [local go_sem] z12 z14 z1b z1c zW zX z13 z15   -- for this text's walks alone
set_option linter.unusedVariables false
set_option linter.unusedSimpArgs false
def z1B.f (a0_0 : Int) (a0_1 : Int) (a1_0 : Int) (a1_1 : Int) : Option (Int × Int):=some (Go.bits .xor .u64 a0_0 a1_0,Go.bits .xor .u64 a0_1 a1_1)
set_option maxHeartbeats 8000000 in
set_option maxRecDepth 100000 in
theorem z1B.calls (a0_0 : Int) (a0_1 : Int) (a1_0 : Int) (a1_1 : Int) (r1 : Int) (r2 : Int) (w : World) (h : z1B.f a0_0 a0_1 a1_0 a1_1 = some (r1,r2)) :
 Calls Try.prog 69 #[.agg #[.int .u64 a0_0,.int .u64 a0_1],.agg #[.int .u64 a1_0,.int .u64 a1_1]] w fun e w'=>e = .returned (.agg #[.int .u64 r1,.int .u64 r2]) ∧ Below w.heap.size w w':=by
 have hu40:=Try.underlying40
 have HB:=z1.mk (Below.refl w.heap.size w)
 have H : (some (Go.bits .xor .u64 a0_0 a1_0,Go.bits .xor .u64 a0_1 a1_1)) = some (r1,r2):=h
 clear h
 simp only [Option.some.injEq,Prod.mk.injEq] at H
 obtain ⟨rfl,rfl⟩:=H
 go_enter Try.func69,Try.ntmps69
 go_wp2_with (first|((with_reducible refine zF (N:=2) rfl ?_);refine zG ?hg (N:=2) ?hd (cs:=#[.int .u64 a0_0,.int .u64 a0_1]) (t:=40) ?hr ?_;(case hd=>rfl);(case hg=>rfl);(case hr=>first|(go_simp;done)|(go_simp;rfl));intro gb101 hg w3 hbox hb;have n0_:=z1.mk (z4 zz28 hb);have n1_:=z1.mk (hbox);have n2_:=z1.mk ((by rw [hg];exact (z5 zz28) : w.heap.size ≤ gb101));have n3_:=z1.mk ((by rw [hg];exact (z5 zz28) : w.heap.size ≤ gb101));clear HB;have HB:=n0_;have BK101:=n1_;have GW101:=n2_;have GE101:=n3_;clear n0_ n1_ n2_ n3_;clear hb hbox hg)|((with_reducible refine zF (N:=3) rfl ?_);refine zG ?hg (N:=3) ?hd (cs:=#[.int .u64 a1_0,.int .u64 a1_1]) (t:=40) ?hr ?_;(case hd=>rfl);(case hg=>rfl);(case hr=>first|(go_simp;done)|(go_simp;rfl));intro gb102 hg w4 hbox hb;have n0_:=z1.mk (zg (g:=gb101) (o:=.cells #[.int .u64 a0_0,.int .u64 a0_1] 40 (0,0)) zz29 hb);have n1_:=z1.mk (z4 zz25 hb);have n2_:=z1.mk (hbox);have n3_:=z1.mk ((by rw [hg];exact (z5 zz25) : w.heap.size ≤ gb102));have n4_:=z1.mk ((by rw [hg];exact (z5 zz25) : w.heap.size ≤ gb102));have n5_:=z1.mk ((by rw [hg];exact Nat.ne_of_lt (zU (g:=gb101) (o:=.cells #[.int .u64 a0_0,.int .u64 a0_1] 40 (0,0)) zz29) : gb101 ≠ gb102));have n6_:=z1.mk ((by rw [hg];exact Nat.ne_of_gt (zU (g:=gb101) (o:=.cells #[.int .u64 a0_0,.int .u64 a0_1] 40 (0,0)) zz29) : gb102 ≠ gb101));clear BK101;clear HB;have BK101:=n0_;have HB:=n1_;have BK102:=n2_;have GW102:=n3_;have GE102:=n4_;have NB101_102:=n5_;have NB102_101:=n6_;clear n0_ n1_ n2_ n3_ n4_ n5_ n6_;clear hb hbox hg)|((with_reducible refine zF (N:=4) rfl ?_);refine zG ?hg (N:=4) ?hd (cs:=#[.int .u64 0,.int .u64 0]) (t:=40) ?hr ?_;(case hd=>rfl);(case hg=>rfl);(case hr=>first|(go_simp;done)|(go_simp;rfl));intro gb103 hg w5 hbox hb;have n0_:=z1.mk (zg (g:=gb101) (o:=.cells #[.int .u64 a0_0,.int .u64 a0_1] 40 (0,0)) zz29 hb);have n1_:=z1.mk (zg (g:=gb102) (o:=.cells #[.int .u64 a1_0,.int .u64 a1_1] 40 (0,0)) zz30 hb);have n2_:=z1.mk (z4 zz22 hb);have n3_:=z1.mk (hbox);have n4_:=z1.mk ((by rw [hg];exact (z5 zz22) : w.heap.size ≤ gb103));have n5_:=z1.mk ((by rw [hg];exact (z5 zz22) : w.heap.size ≤ gb103));have n6_:=z1.mk ((by rw [hg];exact Nat.ne_of_lt (zU (g:=gb101) (o:=.cells #[.int .u64 a0_0,.int .u64 a0_1] 40 (0,0)) zz29) : gb101 ≠ gb103));have n7_:=z1.mk ((by rw [hg];exact Nat.ne_of_gt (zU (g:=gb101) (o:=.cells #[.int .u64 a0_0,.int .u64 a0_1] 40 (0,0)) zz29) : gb103 ≠ gb101));have n8_:=z1.mk ((by rw [hg];exact Nat.ne_of_lt (zU (g:=gb102) (o:=.cells #[.int .u64 a1_0,.int .u64 a1_1] 40 (0,0)) zz30) : gb102 ≠ gb103));have n9_:=z1.mk ((by rw [hg];exact Nat.ne_of_gt (zU (g:=gb102) (o:=.cells #[.int .u64 a1_0,.int .u64 a1_1] 40 (0,0)) zz30) : gb103 ≠ gb102));clear BK101;clear BK102;clear HB;have BK101:=n0_;have BK102:=n1_;have HB:=n2_;have BK103:=n3_;have GW103:=n4_;have GE103:=n5_;have NB101_103:=n6_;have NB103_101:=n7_;have NB102_103:=n8_;have NB103_102:=n9_;clear n0_ n1_ n2_ n3_ n4_ n5_ n6_ n7_ n8_ n9_;clear hb hbox hg;have hnb6:=NB101_102.out;have hnc6:=NB102_101.out;have hnb7:=NB101_103.out;have hnc7:=NB103_101.out;have hcz8_0 : w5.cell? ⟨gb101,0,none⟩ = some (.int .u64 a0_0):=(zc BK101.out 0).trans rfl;have hcz8_1 : w5.cell? ⟨gb101,1,none⟩ = some (.int .u64 a0_1):=(zc BK101.out 1).trans rfl;have hfz8_0:=z8 BK101.out 0;have hfz8_1:=z8 BK101.out 1;have hnb9:=NB102_103.out;have hnc9:=NB103_102.out;have hcz10_0 : w5.cell? ⟨gb102,0,none⟩ = some (.int .u64 a1_0):=(zc BK102.out 0).trans rfl;have hcz10_1 : w5.cell? ⟨gb102,1,none⟩ = some (.int .u64 a1_1):=(zc BK102.out 1).trans rfl;have hfz10_0:=z8 BK102.out 0;have hfz10_1:=z8 BK102.out 1;have hcz11_0 : w5.cell? ⟨gb103,0,none⟩ = some (.int .u64 0):=(zc BK103.out 0).trans rfl;have hcz11_1 : w5.cell? ⟨gb103,1,none⟩ = some (.int .u64 0):=(zc BK103.out 1).trans rfl;have hfz11_0:=z8 BK103.out 0;have hfz11_1:=z8 BK103.out 1))
 refine bodyPost_ret (results_cell_row rfl _ _ gb103 40 #[.int .u64 (Go.bits .xor .u64 a0_0 a1_0),.int .u64 (Go.bits .xor .u64 a0_1 a1_1)] (0,0) _ rfl zz4 Try.underlying40 rfl zz78) rfl ?_
 exact ⟨by first|rfl|(simp [zi,zj] <;> rfl)|(simp [*,zi,zj] <;> rfl),by repeat (first|(with_reducible first|exact HB.out|apply z7|apply z2|apply z6|refine zd ?_ GE101.out|refine zd ?_ GE102.out|refine zd ?_ GE103.out)|exact HB.out)⟩
end Go.Proofs.Ytkhmpaooinpfoaa.P
namespace Go.Proofs.Ytkhmpaooinpfoaa.P
open Go.RowKit Go.Proofs.YtkhmpaooinpfoaaW.PrintWords Go.Proofs.YtkhmpaooinpfoaaW.PrintLast Go.Proofs.YtkhmpaooinpfoaaW.PrintMore
attribute [local go_sem] z12 z14 z1b z1c zW zX z13 z15   -- for this text's walks alone
set_option linter.unusedVariables false
set_option linter.unusedSimpArgs false
def zk.l0 : Nat → List (S40) → List (S40) → List (S40) → Int → Option ((List (S40)))
 | 0,_,_,_,_=>none
 | k + 1,x0,x1,x5,x6=>if x6 < (x0.length : Int) then (if 0 ≤ x6 then (if x6 < (x1.length : Int) then ((z1B.f ((zT x0 x6).f0) ((zT x0 x6).f1) ((zT x1 x6).f0) ((zT x1 x6).f1)).bind fun bt103=>(if x5.length < 8796093022208 then (zk.l0 k x0 x1 (x5 ++ [(⟨bt103.1,bt103.2⟩ : S40)]) (wrap64 (x6 + 1))) else (none))) else (none)) else (none)) else (some x5)
def zk.f (k : Nat) (l0 : List (S40)) (l1 : List (S40)) : Option ((List (S40))):=zk.l0 k l0 l1 ([] : List (S40)) 0
theorem zk.z17 : ∀ k,(∀ y0 y1 y2 y3,LeO (zk.l0 k y0 y1 y2 y3) (zk.l0 (k + 1) y0 y1 y2 y3))
 | 0=>fun _ _ _ _ r h=>by simp [zk.l0] at h
 | k + 1=>by
  have ih0:=zk.z17 k
  · intro y0 y1 y2 y3
    unfold zk.l0
    repeat' first
    | (with_reducible exact ih0 _ _ _ _)
    | (with_reducible exact LeO.refl _)
    | (with_reducible exact LeO.none _)
    | (with_reducible refine LeO.ite ?_ ?_)
    | (with_reducible refine LeO.bind ?_ (fun _=>?_))
    | exact ih0 _ _ _ _
    | exact LeO.none _
    | refine LeO.ite ?_ ?_
    | refine LeO.bind ?_ (fun _=>?_)
theorem zk.mono : ∀ a0 a1 k,LeO (zk.f k a0 a1) (zk.f (k + 1) a0 a1):=by
 intro a0 a1 k
 have ih0:=zk.z17 k
 unfold zk.f
 repeat' first
  | (with_reducible exact ih0 _ _ _ _)
  | (with_reducible exact LeO.refl _)
  | (with_reducible exact LeO.none _)
  | (with_reducible refine LeO.ite ?_ ?_)
  | (with_reducible refine LeO.bind ?_ (fun _=>?_))
  | exact ih0 _ _ _ _
  | exact LeO.none _
  | refine LeO.ite ?_ ?_
  | refine LeO.bind ?_ (fun _=>?_)
def zk.T5 : Bool × List (List Nat × List Nat):=(true,[([],[]),([],[]),([],[]),([1,2],[1,2]),([3],[3]),([],[]),([],[]),([5,6],[5,6]),([7],[7]),([4,8],[4,8]),([9],[9]),([0,10,9],[0,10]),([11,11,0,1,2,3,4,5,6,7,8,9,10,11],[0,11])])
def zk.B5 : List Nat:=[0,0,0,6,14,0,0,96,224,510,1022,2047,4095]
theorem zk.tab5 : rtab .any (opsOf Try.f45 5) = zk.T5:=by kernel_rfl
theorem zk.bits5 : waitsOk zk.T5.2 zk.B5 = true:=by kernel_rfl
set_option maxHeartbeats 8000000 in
set_option maxRecDepth 100000 in
theorem zk.calls (k : Nat) (A0 : Option Addr) (c0 : Nat) (l0 : List (S40)) (A1 : Option Addr) (c1 : Nat) (l1 : List (S40)) (r : List (S40)) (w : World) (hr0 : Kd.C k40 w A0 l0.length l0) (hc0 : l0.length ≤ c0) (hr1 : Kd.C k40 w A1 l1.length l1) (hc1 : l1.length ≤ c1) (h : zk.f k l0 l1 = some r) :
 Calls Try.prog 45 #[.slice A0 l0.length c0,.slice A1 l1.length c1] w fun e w'=>∃ v0_ : Value,e = .returned (v0_) ∧ Kd.R k40 40 w' w.heap.size (fun _=>True) v0_ r ∧ Below w.heap.size w w':=by
 have hu40:=Try.underlying40
 have HR0:=z1.mk hr0
 have HC0:=z1.mk hc0
 clear hr0 hc0
 have HR1:=z1.mk hr1
 have HC1:=z1.mk hc1
 clear hr1 hc1
 have HB:=z1.mk (Below.refl w.heap.size w)
 have H : (zk.l0 k l0 l1 ([] : List (S40)) 0) = some r:=h
 clear h
 have H':=z1.mk H
 clear H
 go_enter Try.func45,Try.ntmps45
 go_wp2
 go_loopg [5,6] k (fun kq v5 v6 w'=>∃ (x5_1 : List (S40)) (x6_1 : Int),v6 = .int .i64 x6_1 ∧ z1 (zk.l0 kq l0 l1 x5_1 x6_1 = some r) ∧ z1 (kq ≤ k) ∧ z1 (Kd.R k40 40 w' w.heap.size (fun _=>True) v5 x5_1) ∧ z1 (Below w.heap.size w w'))
 case atStart=>exact ⟨(([] : List (S40))),(0),zz75,H',⟨Nat.le_refl _⟩,⟨by first|exact Kd.z3f _ _ _ _ _|exact Kd.z3P _ _ _ _ _|exact Kd.z3S _ _ _ _ _|exact Kd.z3Q _ _ _ _ _|exact Kd.z3R _ _ _ _ _⟩,⟨by repeat (first|(with_reducible first|exact HB.out|apply z7|apply z2|apply z6)|exact HB.out)⟩⟩
 case round =>
  clear H'
  (try clear c1);(try clear p2)
  obtain ⟨x5_1,x6_1,rfl,HA,HK1,HO_5,HB⟩:=hrel
  cases gk with
  | zero=>exact absurd HA.out (by simp [zk.l0])
  | succ k1 =>
   have H:=HA.out
   clear HA
   simp only [zk.l0] at H
   by_cases c3 : x6_1 < (l0.length : Int)
   rotate_left
   · rw [if_neg c3] at H
     have c3b0 : decide (x6_1 < (l0.length : Int)) = false:=decide_eq_false c3
     clear c3
     obtain rfl:=Option.some.inj H
     go_wp2
     go_ret
     exact ⟨_,by first|rfl|(simp [zi,zj] <;> rfl)|(simp [*,zi,zj] <;> rfl),by (with_reducible repeat (first|apply Kd.zC|apply Kd.zD|apply Kd.zO));exact HO_5.out,by repeat (first|(with_reducible first|exact HB.out|apply z7|apply z2|apply z6)|exact HB.out)⟩
   rw [if_pos c3] at H
   have c3b0 : decide (x6_1 < (l0.length : Int)) = true:=decide_eq_true c3
   clear c3
   by_cases c4 : 0 ≤ x6_1
   rotate_left
   · rw [if_neg c4] at H
     exact absurd H zz81
   rw [if_pos c4] at H
   have c4b0 : decide (0 ≤ x6_1) = true:=decide_eq_true c4
   clear c4
   by_cases c5 : x6_1 < (l1.length : Int)
   rotate_left
   · rw [if_neg c5] at H
     exact absurd H zz81
   rw [if_pos c5] at H
   have c5b0 : decide (x6_1 < (l1.length : Int)) = true:=decide_eq_true c5
   clear c5
   replace H:=Option.bind_eq_some_iff.mp H
   obtain ⟨⟨t103,t104⟩,A60,H⟩:=H
   replace H : (if x5_1.length < 8796093022208 then (zk.l0 k1 l0 l1 (x5_1 ++ [(⟨t103,t104⟩ : S40)]) (wrap64 (x6_1 + 1))) else (none)) = some r:=H
   have A6:=z1.mk A60
   clear A60
   by_cases c7 : x5_1.length < 8796093022208
   rotate_left
   · rw [if_neg c7] at H
     exact absurd H zz81
   rw [if_pos c7] at H
   have LMc7:=z1.mk c7
   clear c7
   obtain ⟨y105,hy105⟩ : ∃ y_ : List (S40),y_ = (x5_1 ++ [(⟨t103,t104⟩ : S40)]):=⟨_,rfl⟩
   replace H : (zk.l0 k1 l0 l1 y105 (wrap64 (x6_1 + 1))) = some r:=by first|(rw [hy105];with_reducible exact H)|(have H2_:=(Option.bind_some _ _).symm.trans H;rw [hy105];with_reducible exact H2_)|(have H2_:=(Option.bind_some _ _).symm.trans H;with_reducible exact H2_)|with_reducible exact H|(rw [hy105];exact H)|exact H
   have Ny105:=z1.mk hy105
   clear hy105
   have H':=z1.mk H
   clear H
   try go_wp2
   have n0_:=z1.mk (Kd.zO HO_5.out)
   have n1_:=z1.mk (z6 HB.out)
   clear HO_5
   clear HB
   have HO_5:=n0_
   have HB:=n1_
   clear n0_ n1_
   have p101 : 0 ≤ (x6_1 : Int):=of_decide_eq_true zz74
   have q101 : x6_1 < (l0.length : Int):=of_decide_eq_true zz74
   obtain ⟨ad101,e101,hx101_0,hx101_1⟩:=z31 HR0.out x6_1 p101 q101
   have hw101_1:=hx101_1
   have hw101_0:=hx101_0
   cases e101
   replace hx101_0:=(HB.out.cell (World.block_lt_of_cell? w _ hx101_0)).trans hx101_0
   replace hx101_1:=(HB.out.cell (World.block_lt_of_cell? w _ hx101_1)).trans hx101_1
   replace p101:=eq_true p101
   replace q101:=eq_true q101
   have p102 : 0 ≤ (x6_1 : Int):=of_decide_eq_true zz74
   have q102 : x6_1 < (l1.length : Int):=of_decide_eq_true zz74
   obtain ⟨ad102,e102,hx102_0,hx102_1⟩:=z31 HR1.out x6_1 p102 q102
   have hw102_1:=hx102_1
   have hw102_0:=hx102_0
   cases e102
   replace hx102_0:=(HB.out.cell (World.block_lt_of_cell? w _ hx102_0)).trans hx102_0
   replace hx102_1:=(HB.out.cell (World.block_lt_of_cell? w _ hx102_1)).trans hx102_1
   replace p102:=eq_true p102
   replace q102:=eq_true q102
   refine start_ (n:=13) (S:=fun w'=>w'.cell? (ad101.add ((x6_1).toNat * 2)) = some (.int .u64 ((zT l0 x6_1).f0)) ∧ w'.cell? ⟨(ad101.add ((x6_1).toNat * 2)).block,(ad101.add ((x6_1).toNat * 2)).off + 1,none⟩ = some (.int .u64 ((zT l0 x6_1).f1)) ∧ w'.cell? (ad102.add ((x6_1).toNat * 2)) = some (.int .u64 ((zT l1 x6_1).f0)) ∧ w'.cell? ⟨(ad102.add ((x6_1).toNat * 2)).block,(ad102.add ((x6_1).toNat * 2)).off + 1,none⟩ = some (.int .u64 ((zT l1 x6_1).f1))) (ds:=[]) #[false,false,false,false,false,false,false,false,false,false,false,false,false] zz78 rfl rfl ⟨((HB.out.cell (World.block_lt_of_cell? w _ hw101_0)).trans hw101_0),((HB.out.cell (World.block_lt_of_cell? w _ hw101_1)).trans hw101_1),((HB.out.cell (World.block_lt_of_cell? w _ hw102_0)).trans hw102_0),((HB.out.cell (World.block_lt_of_cell? w _ hw102_1)).trans hw102_1)⟩ (fun hHeld=>?_);refine z22 zk.tab5 zk.bits5 (fun HT_ HW_=>?_)
   generalize wr.drew = w8 at HO_5 HB hx101_0 hx101_1 hx102_0 hx102_1 hHeld ⊢
   refine pure_ (i:=0) (N:=some 13) (v:=?_) (a':=?_) #[true,false,false,false,false,false,false,false,false,false,false,false,false] rfl rfl (z1e HT_.out zz78) (fun _ _ _ h=>h) (Or.inl ⟨by rfl,?_⟩) ?_ ?_
   rotate_left
   · intro w'
     go_simp
     with_reducible rfl
   rotate_left
   · simp only [Act.put,List.setIfInBounds_toArray,List.set_cons_zero,List.set_cons_succ,zS,zZ]
     rfl
   refine pure_ (i:=1) (N:=some 14) (v:=?_) (a':=?_) #[true,true,false,false,false,false,false,false,false,false,false,false,false] rfl rfl (z1e HT_.out zz78) (fun _ _ _ h=>h) (Or.inl ⟨by rfl,?_⟩) ?_ ?_
   rotate_left
   · intro w'
     go_simp
     with_reducible rfl
   rotate_left
   · simp only [Act.put,List.setIfInBounds_toArray,List.set_cons_zero,List.set_cons_succ,zS,zZ]
     rfl
   refine pure_ (i:=2) (N:=some 15) (v:=?_) (a':=?_) #[true,true,true,false,false,false,false,false,false,false,false,false,false] rfl rfl (z1e HT_.out zz78) (fun _ _ _ h=>h) (Or.inl ⟨by rfl,?_⟩) ?_ ?_
   rotate_left
   · intro w'
     go_simp
     with_reducible rfl
   rotate_left
   · simp only [Act.put,List.setIfInBounds_toArray,List.set_cons_zero,List.set_cons_succ,zS,zZ]
     rfl
   refine pure_ (i:=3) (N:=some 16) (v:=?_) (a':=?_) #[true,true,true,true,false,false,false,false,false,false,false,false,false] rfl rfl (z1e HT_.out zz78) (fun _ _ _ h=>h) (Or.inl ⟨by rfl,?_⟩) ?_ ?_
   rotate_left
   · intro w'
     go_simp
     with_reducible rfl
   rotate_left
   · simp only [Act.put,List.setIfInBounds_toArray,List.set_cons_zero,List.set_cons_succ,zS,zZ]
     rfl
   refine pure_ (i:=5) (N:=some 18) (v:=?_) (a':=?_) #[true,true,true,true,false,true,false,false,false,false,false,false,false] rfl rfl (z1e HT_.out zz78) (fun _ _ _ h=>h) (Or.inl ⟨by rfl,?_⟩) ?_ ?_
   rotate_left
   · intro w'
     go_simp
     with_reducible rfl
   rotate_left
   · simp only [Act.put,List.setIfInBounds_toArray,List.set_cons_zero,List.set_cons_succ,zS,zZ]
     rfl
   refine pure_ (i:=6) (N:=some 19) (v:=?_) (a':=?_) #[true,true,true,true,false,true,true,false,false,false,false,false,false] rfl rfl (z1e HT_.out zz78) (fun _ _ _ h=>h) (Or.inl ⟨by rfl,?_⟩) ?_ ?_
   rotate_left
   · intro w'
     go_simp
     with_reducible rfl
   rotate_left
   · simp only [Act.put,List.setIfInBounds_toArray,List.set_cons_zero,List.set_cons_succ,zS,zZ]
     rfl
   refine pure_ (i:=7) (N:=some 20) (v:=?_) (a':=?_) #[true,true,true,true,false,true,true,true,false,false,false,false,false] rfl rfl (z1e HT_.out zz78) (fun _ _ _ h=>h) (Or.inl ⟨by rfl,?_⟩) ?_ ?_
   rotate_left
   · intro w'
     go_simp
     with_reducible rfl
   rotate_left
   · simp only [Act.put,List.setIfInBounds_toArray,List.set_cons_zero,List.set_cons_succ,zS,zZ]
     rfl
   refine take_ (i:=4) (N:=some 17) (v:=?_) (a':=?_) #[true,true,true,true,true,true,true,true,false,false,false,false,false] rfl rfl (z1I HT_.out HW_.out zz78) (fun _ _ _ h=>h) (Or.inl ⟨by rfl,?_⟩) hHeld ?_ ?_
   rotate_left
   · rintro w' ⟨s0,s1,s2,s3⟩
     go_simp
     with_reducible rfl
   rotate_left
   · simp only [Act.put,List.setIfInBounds_toArray,List.set_cons_zero,List.set_cons_succ,zS,zZ]
     rfl
   refine take_ (i:=8) (N:=some 21) (v:=?_) (a':=?_) #[true,true,true,true,true,true,true,true,true,false,false,false,false] rfl rfl (z1I HT_.out HW_.out zz78) (fun _ _ _ h=>h) (Or.inl ⟨by rfl,?_⟩) hHeld ?_ ?_
   rotate_left
   · rintro w' ⟨s0,s1,s2,s3⟩
     go_simp
     with_reducible rfl
   rotate_left
   · simp only [Act.put,List.setIfInBounds_toArray,List.set_cons_zero,List.set_cons_succ,zS,zZ]
     rfl
   refine one_ (i:=9) (N:=some 22) #[true,true,true,true,true,true,true,true,true,true,false,false,false] rfl rfl (z1J HT_.out zz78) zz79 (fun K hK=>?_)
   refine goes_ Try.func69 zz78 rfl #[.agg #[.int .u64 ((zT l0 x6_1).f0),.int .u64 ((zT l0 x6_1).f1)],.agg #[.int .u64 ((zT l1 x6_1).f0),.int .u64 ((zT l1 x6_1).f1)]] zz82 rfl rfl zz27 ?_
   with_reducible refine (z1B.calls ((zT l0 x6_1).f0) ((zT l0 x6_1).f1) ((zT l1 x6_1).f0) ((zT l1 x6_1).f1) t103 t104 _ A6.out).mono ?_
   rintro e w9 ⟨rfl,hb⟩
   refine ⟨_,rfl,?_⟩
   have n0_:=z1.mk (Kd.zJ zz53 hb)
   have n1_:=z1.mk (z4 zz28 hb)
   clear HO_5
   clear HB
   have HO_5:=n0_
   have HB:=n1_
   clear n0_ n1_
   (try clear hb)
   (try clear hb2)
   (try clear hk)
   (try clear hi)
   refine hK.out _ _ ⟨((HB.out.cell (World.block_lt_of_cell? w _ hw101_0)).trans hw101_0),((HB.out.cell (World.block_lt_of_cell? w _ hw101_1)).trans hw101_1),((HB.out.cell (World.block_lt_of_cell? w _ hw102_0)).trans hw102_0),((HB.out.cell (World.block_lt_of_cell? w _ hw102_1)).trans hw102_1)⟩ (fun hHeld=>?_)
   clear hK K
   refine norm_ (a':=?_) ?_ ?_
   rotate_left
   · show Act.put _ (some 22) _ = _
     simp only [Act.put,List.setIfInBounds_toArray,List.set_cons_zero,List.set_cons_succ,zS,zZ]
     rfl
   refine one_ (i:=10) (N:=some 23) #[true,true,true,true,true,true,true,true,true,true,true,false,false] rfl rfl (z1J HT_.out zz78) zz79 (fun K hK=>?_)
   refine value_ (w1:=?_) (v:=?_) zz82 rfl ?_ ?_
   rotate_left 2
   · go_simp
     constructor
     · rfl
     · rfl
   refine hK.out _ _ ⟨(World.cell?_alloc_lt _ _ _ (World.block_lt_of_cell? _ _ (((HB.out.cell (World.block_lt_of_cell? w _ hw101_0)).trans hw101_0)))).trans (((HB.out.cell (World.block_lt_of_cell? w _ hw101_0)).trans hw101_0)),(World.cell?_alloc_lt _ _ _ (World.block_lt_of_cell? _ _ (((HB.out.cell (World.block_lt_of_cell? w _ hw101_1)).trans hw101_1)))).trans (((HB.out.cell (World.block_lt_of_cell? w _ hw101_1)).trans hw101_1)),(World.cell?_alloc_lt _ _ _ (World.block_lt_of_cell? _ _ (((HB.out.cell (World.block_lt_of_cell? w _ hw102_0)).trans hw102_0)))).trans (((HB.out.cell (World.block_lt_of_cell? w _ hw102_0)).trans hw102_0)),(World.cell?_alloc_lt _ _ _ (World.block_lt_of_cell? _ _ (((HB.out.cell (World.block_lt_of_cell? w _ hw102_1)).trans hw102_1)))).trans (((HB.out.cell (World.block_lt_of_cell? w _ hw102_1)).trans hw102_1))⟩ (fun hHeld=>?_)
   clear hK K
   refine norm_ (a':=?_) ?_ ?_
   rotate_left
   · show Act.put _ (some 23) _ = _
     simp only [Act.put,List.setIfInBounds_toArray,List.set_cons_zero,List.set_cons_succ,zS,zZ]
     rfl
   refine one_ (i:=11) (N:=some 24) #[true,true,true,true,true,true,true,true,true,true,true,true,false] rfl rfl (z1J HT_.out zz78) zz79 (fun K hK=>?_)
   refine Kd.z4V k40 (w0:=w) w.heap.size zz82 (.tmp 13) (.tmp 23) 36 40 (.agg #[(.int .u64 0),(.int .u64 0)]) 16 rfl Try.underlying36 info40 rfl zz79 zz80 u5 x5_1 (⟨t103,t104⟩ : S40) [.int .u64 t103,.int .u64 t104] (fun _=>True) (fun _=>False) rfl rfl ?aP (fun _ hk=>hk.elim) ?aF ?aO ?aB ?aS ?aL ?_
   (case aP=>exact z4b _ _ _ (⟨t103,t104⟩ : S40))
   (case aB=>exact zz28)
   (case aF=>exact (fun _ _=>trivial))
   (case aO=>exact zz53)
   (case aS=>exact (z5 zz28))
   (case aL=>have:=LMc7.out;omega)
   intro v106 w10 ho hb hg hat
   rw [← Ny105.out] at ho
   have n0_:=z1.mk (hb)
   have n1_:=z1.mk (ho)
   clear HB
   clear HO_5
   have HB:=n0_
   have HO107:=n1_
   clear n0_ n1_
   clear ho hb hg hat
   refine hK.out _ _ ⟨((HB.out.cell (World.block_lt_of_cell? w _ hw101_0)).trans hw101_0),((HB.out.cell (World.block_lt_of_cell? w _ hw101_1)).trans hw101_1),((HB.out.cell (World.block_lt_of_cell? w _ hw102_0)).trans hw102_0),((HB.out.cell (World.block_lt_of_cell? w _ hw102_1)).trans hw102_1)⟩ (fun hHeld=>?_)
   clear hK K
   refine norm_ (a':=?_) ?_ ?_
   rotate_left
   · show Act.put _ (some 24) _ = _
     simp only [Act.put,List.setIfInBounds_toArray,List.set_cons_zero,List.set_cons_succ,zS,zZ]
     rfl
   refine pure_ (i:=12) (N:=some 5) (v:=?_) (a':=?_) #[true,true,true,true,true,true,true,true,true,true,true,true,true] rfl rfl (z1e HT_.out zz78) (fun _ _ _ h=>h) (Or.inl ⟨by rfl,?_⟩) ?_ ?_
   rotate_left
   · intro w'
     go_simp
     with_reducible rfl
   rotate_left
   · simp only [Act.put,List.setIfInBounds_toArray,List.set_cons_zero,List.set_cons_succ,zS,zZ]
     rfl
   refine done_ (z2q HT_.out zz78) ?_
   try go_wp2
   go_roundg k1
   case measure=>have:=HK1.out;omega
   case rel=>exact ⟨(y105),(wrap64 (x6_1 + 1)),zz75,H',⟨by have:=HK1.out;omega⟩,⟨by (with_reducible repeat (first|apply Kd.zC|apply Kd.zD|apply Kd.zO));exact HO107.out⟩,⟨by repeat (first|(with_reducible first|exact HB.out|apply z7|apply z2|apply z6)|exact HB.out)⟩⟩
end Go.Proofs.Ytkhmpaooinpfoaa.P
namespace Go.Proofs.Ytkhmpaooinpfoaa.P
open Go.RowKit Go.Proofs.YtkhmpaooinpfoaaW.PrintWords Go.Proofs.YtkhmpaooinpfoaaW.PrintLast Go.Proofs.YtkhmpaooinpfoaaW.PrintMore
attribute [local go_sem] z12 z14 z1b z1c zW zX z13 z15   -- for this text's walks alone
set_option linter.unusedVariables false
set_option linter.unusedSimpArgs false
def zt.j0 : Nat → Int → Bool → Option (Int × Int)
 | 0,_,_=>none
 | k + 1,x0,x8=>if x8 = true then (some (0,0)) else (if x0 > 63 then (if 0 ≤ (IntKind.u64.wrap (wrap64 (x0 - 64))) then (some (shl .u64 1 (IntKind.u64.wrap (wrap64 (x0 - 64))),0)) else (none)) else (if 0 ≤ (IntKind.u64.wrap (x0)) then (some (0,shl .u64 1 (IntKind.u64.wrap (x0)))) else (none)))
def zt.f (k : Nat) (a0 : Int) : Option (Int × Int):=if a0 < 0 then (zt.j0 k a0 true) else (zt.j0 k a0 (decide (a0 > 127)))
theorem zt.z17 : ∀ k,(∀ y0 y1,LeO (zt.j0 k y0 y1) (zt.j0 (k + 1) y0 y1))
 | 0=>fun _ _ r h=>by simp [zt.j0] at h
 | k + 1=>by
  have ih0:=zt.z17 k
  · intro y0 y1
    unfold zt.j0
    repeat' first
    | (with_reducible exact ih0 _ _)
    | (with_reducible exact LeO.refl _)
    | (with_reducible exact LeO.none _)
    | (with_reducible refine LeO.ite ?_ ?_)
    | (with_reducible refine LeO.bind ?_ (fun _=>?_))
    | exact ih0 _ _
    | exact LeO.none _
    | refine LeO.ite ?_ ?_
    | refine LeO.bind ?_ (fun _=>?_)
theorem zt.mono : ∀ a0 k,LeO (zt.f k a0) (zt.f (k + 1) a0):=by
 intro a0 k
 have ih0:=zt.z17 k
 unfold zt.f
 repeat' first
  | (with_reducible exact ih0 _ _)
  | (with_reducible exact LeO.refl _)
  | (with_reducible exact LeO.none _)
  | (with_reducible refine LeO.ite ?_ ?_)
  | (with_reducible refine LeO.bind ?_ (fun _=>?_))
  | exact ih0 _ _
  | exact LeO.none _
  | refine LeO.ite ?_ ?_
  | refine LeO.bind ?_ (fun _=>?_)
set_option maxHeartbeats 8000000 in
set_option maxRecDepth 100000 in
theorem zt.calls (k : Nat) (a0 : Int) (r1 : Int) (r2 : Int) (w : World) (h : zt.f k a0 = some (r1,r2)) :
 Calls Try.prog 98 #[.int .i64 a0] w fun e w'=>e = .returned (.agg #[.int .u64 r1,.int .u64 r2]) ∧ Below w.heap.size w w':=by
 have hu40:=Try.underlying40
 have HB:=z1.mk (Below.refl w.heap.size w)
 have H : (if a0 < 0 then (zt.j0 k a0 true) else (zt.j0 k a0 (decide (a0 > 127)))) = some (r1,r2):=h
 clear h
 have HC2:=z1.mk H
 clear H
 go_enter Try.func98,Try.ntmps98
 go_upto_region 1 with (first|((with_reducible refine zF (N:=2) rfl ?_);refine zG ?hg (N:=2) ?hd (cs:=#[.int .u64 0,.int .u64 0]) (t:=40) ?hr ?_;(case hd=>rfl);(case hg=>rfl);(case hr=>first|(go_simp;done)|(go_simp;rfl));intro gb101 hg w3 hbox hb;have n0_:=z1.mk (z4 zz28 hb);have n1_:=z1.mk (hbox);have n2_:=z1.mk ((by rw [hg];exact (z5 zz28) : w.heap.size ≤ gb101));have n3_:=z1.mk ((by rw [hg];exact (z5 zz28) : w.heap.size ≤ gb101));clear HB;have HB:=n0_;have BK101:=n1_;have GW101:=n2_;have GE101:=n3_;clear n0_ n1_ n2_ n3_;clear hb hbox hg))
 (try simp only [Act.put,List.setIfInBounds_toArray,List.set_cons_zero,List.set_cons_succ])
 go_cut [8] (fun v8 wc=>∃ (kq : Nat) (x8_1 : Bool),v8 = .bool x8_1 ∧ z1 (zt.j0 kq a0 x8_1 = some (r1,r2)) ∧ z1 (kq ≤ k) ∧ z1 (wc.heap[gb101]? = some (.cells #[.int .u64 0,.int .u64 0] 40 (0,0))) ∧ z1 (Below w.heap.size w wc))
 case first =>
  have H:=HC2.out
  clear HC2
  by_cases c4 : a0 < 0
  rotate_left
  · rw [if_neg c4] at H
    have c4b0 : decide (a0 < 0) = false:=decide_eq_false c4
    clear c4
    (first|rw [c4b0]|(simp only [zS,zZ];rw [c4b0])|skip)
    have H':=z1.mk H
    clear H
    go_wp2
    go_meet
    case rel=>exact ⟨_,(decide (a0 > 127)),zz75,H',⟨by first|omega|exact Nat.le_refl _⟩,⟨by (with_reducible repeat (first|refine zb ?_ _|refine zf ?_|refine za ?_ _));exact BK101.out⟩,⟨by repeat (first|(with_reducible first|exact HB.out|apply z7|apply z2|apply z6|refine zd ?_ GE101.out)|exact HB.out)⟩⟩
  rw [if_pos c4] at H
  have c4b0 : decide (a0 < 0) = true:=decide_eq_true c4
  clear c4
  (first|rw [c4b0]|(simp only [zS,zZ];rw [c4b0])|skip)
  have H':=z1.mk H
  clear H
  go_wp2
  go_meet
  case rel=>exact ⟨_,(true),zz75,H',⟨by first|omega|exact Nat.le_refl _⟩,⟨by (with_reducible repeat (first|refine zb ?_ _|refine zf ?_|refine za ?_ _));exact BK101.out⟩,⟨by repeat (first|(with_reducible first|exact HB.out|apply z7|apply z2|apply z6|refine zd ?_ GE101.out)|exact HB.out)⟩⟩
 case rest =>
  clear HC2
  (try clear p2);(try clear c4);(try clear c4b0)
  obtain ⟨kq,x8_1,rfl,HA,HJ1,BK101,HB⟩:=hcut
  cases kq with
  | zero=>exact absurd HA.out (by simp [zt.j0])
  | succ kj1 =>
   have H:=HA.out
   clear HA
   simp only [zt.j0] at H
   by_cases c5 : x8_1 = true
   · subst c5
     have H1 : (some (0,0)) = some (r1,r2):=by rw [if_pos rfl] at H;exact H
     clear H
     have H:=H1
     clear H1
     simp only [Option.some.injEq,Prod.mk.injEq] at H
     obtain ⟨rfl,rfl⟩:=H
     have hcz6_0 : wc.cell? ⟨gb101,0,none⟩ = some (.int .u64 0):=(zc BK101.out 0).trans rfl
     have hcz6_1 : wc.cell? ⟨gb101,1,none⟩ = some (.int .u64 0):=(zc BK101.out 1).trans rfl
     have hfz6_0:=z8 BK101.out 0
     have hfz6_1:=z8 BK101.out 1
     go_wp2
     refine bodyPost_ret (results_cell_row rfl _ _ gb101 40 #[.int .u64 0,.int .u64 0] (0,0) _ rfl zz7 Try.underlying40 rfl zz78) rfl ?_
     exact ⟨by first|rfl|(simp [zi,zj] <;> rfl)|(simp [*,zi,zj] <;> rfl),by repeat (first|(with_reducible first|exact HB.out|apply z7|apply z2|apply z6|refine zd ?_ GE101.out)|exact HB.out)⟩
   replace c5:=Bool.eq_false_iff.mpr c5
   subst c5
   have H1 : (if a0 > 63 then (if 0 ≤ (IntKind.u64.wrap (wrap64 (a0 - 64))) then (some (shl .u64 1 (IntKind.u64.wrap (wrap64 (a0 - 64))),0)) else (none)) else (if 0 ≤ (IntKind.u64.wrap (a0)) then (some (0,shl .u64 1 (IntKind.u64.wrap (a0)))) else (none))) = some (r1,r2):=by rw [if_neg (show ¬ (false = true) by decide)] at H;exact H
   clear H
   have H:=H1
   clear H1
   by_cases c7 : a0 > 63
   · rw [if_pos c7] at H
     have c7b0 : decide (63 < a0) = true:=decide_eq_true c7
     clear c7
     obtain ⟨ji8,hji8⟩ : ∃ j_ : Int,(IntKind.u64.wrap (wrap64 (a0 - 64))) = j_:=⟨_,rfl⟩
     replace H : (if 0 ≤ (ji8) then (some (shl .u64 1 (ji8),0)) else (none)) = some (r1,r2):=by first|(rw [hji8] at H;exact H)|(simp only [hji8] at H ⊢;exact H)
     by_cases c9 : 0 ≤ (ji8)
     rotate_left
     · rw [if_neg c9] at H
       exact absurd H zz81
     rw [if_pos c9] at H
     have c9b0:=eq_true c9
     have c9b1 : decide (0 ≤ (ji8)) = true:=decide_eq_true c9
     clear c9
     obtain ⟨ji10,hji10⟩ : ∃ j_ : Int,(shl .u64 1 (ji8)) = j_:=⟨_,rfl⟩
     replace H : (some (ji10,0)) = some (r1,r2):=by first|(rw [hji10] at H;exact H)|(simp only [hji10] at H ⊢;exact H)
     have hji10_ : (IntKind.u64.wrap (1 * 2 ^ min (ji8).toNat 64)) = ji10:=hji10
     have hji10z : (ji8) ≤ 64 → (IntKind.u64.wrap (1 * 2 ^ (ji8).toNat)) = ji10:=z1S hji10
     have hji10n0 : 0 ≤ ji10:=by rw [← hji10];exact Int.emod_nonneg _ zz79
     have hji10n1 : decide (0 ≤ ji10) = true:=decide_eq_true hji10n0
     replace hji10n0:=eq_true hji10n0
     have hji10u : (IntKind.u64.wrap (2 ^ min (ji8).toNat 64)) = ji10:=by have h_:=hji10_;rw [Int.one_mul] at h_;exact h_
     have hji10v : (ji8) ≤ 64 → (IntKind.u64.wrap (2 ^ (ji8).toNat)) = ji10:=fun hle_=>by have h_:=hji10z hle_;rw [Int.one_mul] at h_;exact h_
     simp only [Option.some.injEq,Prod.mk.injEq] at H
     obtain ⟨rfl,rfl⟩:=H
     have hcz11_0 : wc.cell? ⟨gb101,0,none⟩ = some (.int .u64 0):=(zc BK101.out 0).trans rfl
     have hcz11_1 : wc.cell? ⟨gb101,1,none⟩ = some (.int .u64 0):=(zc BK101.out 1).trans rfl
     have hfz11_0:=z8 BK101.out 0
     have hfz11_1:=z8 BK101.out 1
     go_wp2
     refine bodyPost_ret (results_cell_row rfl _ _ gb101 40 #[.int .u64 ji10,.int .u64 0] (0,0) _ rfl (by (with_reducible repeat (first|refine zb ?_ _|refine zf ?_|refine za ?_ _));refine z1m (cs:=#[.int .u64 ji10,.int .u64 0]) ?_ 1 _ rfl;(with_reducible repeat (first|refine zb ?_ _|refine zf ?_|refine za ?_ _));refine z1m (cs:=#[.int .u64 0,.int .u64 0]) ?_ 0 _ rfl;(with_reducible repeat (first|refine zb ?_ _|refine zf ?_|refine za ?_ _));exact BK101.out) Try.underlying40 rfl zz78) rfl ?_
     exact ⟨by first|rfl|(simp [zi,zj] <;> rfl)|(simp only [← hji8,← hji10];first|rfl|(simp [zi,zj] <;> rfl))|(simp [*,zi,zj] <;> rfl),by repeat (first|(with_reducible first|exact HB.out|apply z7|apply z2|apply z6|refine zd ?_ GE101.out)|exact HB.out)⟩
   rw [if_neg c7] at H
   have c7b0 : decide (63 < a0) = false:=decide_eq_false c7
   clear c7
   obtain ⟨ji12,hji12⟩ : ∃ j_ : Int,(IntKind.u64.wrap (a0)) = j_:=⟨_,rfl⟩
   replace H : (if 0 ≤ (ji12) then (some (0,shl .u64 1 (ji12))) else (none)) = some (r1,r2):=by first|(rw [hji12] at H;exact H)|(simp only [hji12] at H ⊢;exact H)
   by_cases c13 : 0 ≤ (ji12)
   rotate_left
   · rw [if_neg c13] at H
     exact absurd H zz81
   rw [if_pos c13] at H
   have c13b0:=eq_true c13
   have c13b1 : decide (0 ≤ (ji12)) = true:=decide_eq_true c13
   clear c13
   obtain ⟨ji14,hji14⟩ : ∃ j_ : Int,(shl .u64 1 (ji12)) = j_:=⟨_,rfl⟩
   replace H : (some (0,ji14)) = some (r1,r2):=by first|(rw [hji14] at H;exact H)|(simp only [hji14] at H ⊢;exact H)
   have hji14_ : (IntKind.u64.wrap (1 * 2 ^ min (ji12).toNat 64)) = ji14:=hji14
   have hji14z : (ji12) ≤ 64 → (IntKind.u64.wrap (1 * 2 ^ (ji12).toNat)) = ji14:=z1S hji14
   have hji14n0 : 0 ≤ ji14:=by rw [← hji14];exact Int.emod_nonneg _ zz79
   have hji14n1 : decide (0 ≤ ji14) = true:=decide_eq_true hji14n0
   replace hji14n0:=eq_true hji14n0
   have hji14u : (IntKind.u64.wrap (2 ^ min (ji12).toNat 64)) = ji14:=by have h_:=hji14_;rw [Int.one_mul] at h_;exact h_
   have hji14v : (ji12) ≤ 64 → (IntKind.u64.wrap (2 ^ (ji12).toNat)) = ji14:=fun hle_=>by have h_:=hji14z hle_;rw [Int.one_mul] at h_;exact h_
   simp only [Option.some.injEq,Prod.mk.injEq] at H
   obtain ⟨rfl,rfl⟩:=H
   have hcz15_0 : wc.cell? ⟨gb101,0,none⟩ = some (.int .u64 0):=(zc BK101.out 0).trans rfl
   have hcz15_1 : wc.cell? ⟨gb101,1,none⟩ = some (.int .u64 0):=(zc BK101.out 1).trans rfl
   have hfz15_0:=z8 BK101.out 0
   have hfz15_1:=z8 BK101.out 1
   go_wp2
   refine bodyPost_ret (results_cell_row rfl _ _ gb101 40 #[.int .u64 0,.int .u64 ji14] (0,0) _ rfl zz7 Try.underlying40 rfl zz78) rfl ?_
   exact ⟨by first|rfl|(simp [zi,zj] <;> rfl)|(simp only [← hji12,← hji14];first|rfl|(simp [zi,zj] <;> rfl))|(simp [*,zi,zj] <;> rfl),by repeat (first|(with_reducible first|exact HB.out|apply z7|apply z2|apply z6|refine zd ?_ GE101.out)|exact HB.out)⟩
end Go.Proofs.Ytkhmpaooinpfoaa.P
namespace Go.Proofs.Ytkhmpaooinpfoaa.P
open Go.RowKit Go.Proofs.YtkhmpaooinpfoaaW.PrintWords Go.Proofs.YtkhmpaooinpfoaaW.PrintLast Go.Proofs.YtkhmpaooinpfoaaW.PrintMore
attribute [local go_sem] z12 z14 z1b z1c zW zX z13 z15   -- for this text's walks alone
set_option linter.unusedVariables false
set_option linter.unusedSimpArgs false
def zR.f (k : Nat) (a0_0 : Int) (a0_1 : Int) (a1 : Int) : Option (Bool):=(zt.f k a1).bind fun bt102=>(some ((Go.bits .or .u64 (Go.bits .and .u64 a0_1 bt102.2) (Go.bits .and .u64 a0_0 bt102.1)) != 0))
theorem zR.mono : ∀ a0 a1 a2 k,LeO (zR.f k a0 a1 a2) (zR.f (k + 1) a0 a1 a2):=by
 intro a0 a1 a2 k
 unfold zR.f
 repeat' first
  | (with_reducible exact zt.mono _ _)
  | (with_reducible exact LeO.refl _)
  | (with_reducible exact LeO.none _)
  | (with_reducible refine LeO.ite ?_ ?_)
  | (with_reducible refine LeO.bind ?_ (fun _=>?_))
  | exact zt.mono _ _
  | exact LeO.none _
  | refine LeO.ite ?_ ?_
  | refine LeO.bind ?_ (fun _=>?_)
set_option maxHeartbeats 8000000 in
set_option maxRecDepth 100000 in
theorem zR.calls (k : Nat) (a0_0 : Int) (a0_1 : Int) (a1 : Int) (r : Bool) (w : World) (h : zR.f k a0_0 a0_1 a1 = some r) :
 Calls Try.prog 104 #[.agg #[.int .u64 a0_0,.int .u64 a0_1],.int .i64 a1] w fun e w'=>e = .returned (.bool r) ∧ Below w.heap.size w w':=by
 have hu40:=Try.underlying40
 have HB:=z1.mk (Below.refl w.heap.size w)
 have H : ((zt.f k a1).bind fun bt102=>(some ((Go.bits .or .u64 (Go.bits .and .u64 a0_1 bt102.2) (Go.bits .and .u64 a0_0 bt102.1)) != 0))) = some r:=h
 clear h
 replace H:=Option.bind_eq_some_iff.mp H
 obtain ⟨⟨t102,t103⟩,A30,H⟩:=H
 replace H : (some ((Go.bits .or .u64 (Go.bits .and .u64 a0_1 t103) (Go.bits .and .u64 a0_0 t102)) != 0)) = some r:=H
 have A3:=z1.mk A30
 clear A30
 obtain rfl:=Option.some.inj H
 go_enter Try.func104,Try.ntmps104
 go_wp2_with (first|((with_reducible refine zF (N:=2) rfl ?_);refine zG ?hg (N:=2) ?hd (cs:=#[.int .u64 a0_0,.int .u64 a0_1]) (t:=40) ?hr ?_;(case hd=>rfl);(case hg=>rfl);(case hr=>first|(go_simp;done)|(go_simp;rfl));intro gb101 hg w4 hbox hb;have n0_:=z1.mk (z4 zz28 hb);have n1_:=z1.mk (hbox);have n2_:=z1.mk ((by rw [hg];exact (z5 zz28) : w.heap.size ≤ gb101));have n3_:=z1.mk ((by rw [hg];exact (z5 zz28) : w.heap.size ≤ gb101));clear HB;have HB:=n0_;have BK101:=n1_;have GW101:=n2_;have GE101:=n3_;clear n0_ n1_ n2_ n3_;clear hb hbox hg)|((with_reducible refine zl (f:=98) rfl ?_);refine goesL_ (some 7) rfl rfl Try.func98 zz78 rfl #[.int .i64 a1] rfl zz27 ?_;(with_reducible refine (zt.calls k a1 t102 t103 _ A3.out).mono ?_);rintro e w5 ⟨rfl,hb⟩;refine ⟨_,rfl,?_⟩;have n0_:=z1.mk (zg (g:=gb101) (o:=.cells #[.int .u64 a0_0,.int .u64 a0_1] 40 (0,0)) zz29 hb);have n1_:=z1.mk (z4 zz25 hb);clear BK101;clear HB;have BK101:=n0_;have HB:=n1_;clear n0_ n1_;(try clear hb);(try clear hb2);(try clear hk);(try clear hi))|((with_reducible refine zF (N:=5) rfl ?_);refine zG ?hg (N:=5) ?hd (cs:=#[.int .u64 0,.int .u64 0]) (t:=40) ?hr ?_;(case hd=>rfl);(case hg=>rfl);(case hr=>first|(go_simp;done)|(go_simp;rfl));intro gb104 hg w6 hbox hb;have n0_:=z1.mk (zg (g:=gb101) (o:=.cells #[.int .u64 a0_0,.int .u64 a0_1] 40 (0,0)) zz29 hb);have n1_:=z1.mk (z4 zz25 hb);have n2_:=z1.mk (hbox);have n3_:=z1.mk ((by rw [hg];exact (z5 zz25) : w.heap.size ≤ gb104));have n4_:=z1.mk ((by rw [hg];exact (z5 zz25) : w.heap.size ≤ gb104));have n5_:=z1.mk ((by rw [hg];exact Nat.ne_of_lt (zU (g:=gb101) (o:=.cells #[.int .u64 a0_0,.int .u64 a0_1] 40 (0,0)) zz29) : gb101 ≠ gb104));have n6_:=z1.mk ((by rw [hg];exact Nat.ne_of_gt (zU (g:=gb101) (o:=.cells #[.int .u64 a0_0,.int .u64 a0_1] 40 (0,0)) zz29) : gb104 ≠ gb101));clear BK101;clear HB;have BK101:=n0_;have HB:=n1_;have BK104:=n2_;have GW104:=n3_;have GE104:=n4_;have NB101_104:=n5_;have NB104_101:=n6_;clear n0_ n1_ n2_ n3_ n4_ n5_ n6_;clear hb hbox hg;have hnb7:=NB104_101.out;have hnc7:=NB101_104.out;have hcz8_0 : w6.cell? ⟨gb104,0,none⟩ = some (.int .u64 0):=(zc BK104.out 0).trans rfl;have hcz8_1 : w6.cell? ⟨gb104,1,none⟩ = some (.int .u64 0):=(zc BK104.out 1).trans rfl;have hfz8_0:=z8 BK104.out 0;have hfz8_1:=z8 BK104.out 1;have hcz9_0 : w6.cell? ⟨gb101,0,none⟩ = some (.int .u64 a0_0):=(zc BK101.out 0).trans rfl;have hcz9_1 : w6.cell? ⟨gb101,1,none⟩ = some (.int .u64 a0_1):=(zc BK101.out 1).trans rfl;have hfz9_0:=z8 BK101.out 0;have hfz9_1:=z8 BK101.out 1))
 go_ret
 exact ⟨by first|rfl|(simp [zi,zj] <;> rfl)|(simp [*,zi,zj] <;> rfl),by repeat (first|(with_reducible first|exact HB.out|apply z7|apply z2|apply z6|refine zd ?_ GE101.out|refine zd ?_ GE104.out)|exact HB.out)⟩
end Go.Proofs.Ytkhmpaooinpfoaa.P
namespace Go.Proofs.Ytkhmpaooinpfoaa.P
open Go.RowKit Go.Proofs.YtkhmpaooinpfoaaW.PrintWords Go.Proofs.YtkhmpaooinpfoaaW.PrintLast Go.Proofs.YtkhmpaooinpfoaaW.PrintMore
attribute [local go_sem] z12 z14 z1b z1c zW zX z13 z15   -- for this text's walks alone
set_option linter.unusedVariables false
set_option linter.unusedSimpArgs false
def zm.l0 : Nat → Int → List (S40) → Int → Int → Int → Int → Int → Option ((List (S40)))
 | 0,_,_,_,_,_,_,_=>none
 | k + 1,x0,x7,x8,x102000,x102001,x103000,x103001=>(zQ.f k x0).bind fun t103=>(if x8 < t103 then ((zR.f k x102000 x102001 x8).bind fun t105=>(if t105 = true then (if x7.length < 8796093022208 then (zm.l0 k x0 (x7 ++ [(⟨x103000,x103001⟩ : S40)]) (wrap64 (x8 + 1)) x102000 x102001 x103000 x103001) else (none)) else (if x7.length < 8796093022208 then (zm.l0 k x0 (x7 ++ [(⟨0,0⟩ : S40)]) (wrap64 (x8 + 1)) x102000 x102001 x103000 x103001) else (none)))) else (some x7))
def zm.f (k : Nat) (a0 : Int) (a1_0 : Int) (a1_1 : Int) (a2_0 : Int) (a2_1 : Int) : Option ((List (S40))):=zm.l0 k a0 ([] : List (S40)) 0 a1_0 a1_1 a2_0 a2_1
theorem zm.z17 : ∀ k,(∀ y0 y1 y2 y3 y4 y5 y6,LeO (zm.l0 k y0 y1 y2 y3 y4 y5 y6) (zm.l0 (k + 1) y0 y1 y2 y3 y4 y5 y6))
 | 0=>fun _ _ _ _ _ _ _ r h=>by simp [zm.l0] at h
 | k + 1=>by
  have ih0:=zm.z17 k
  · intro y0 y1 y2 y3 y4 y5 y6
    unfold zm.l0
    repeat' first
    | (with_reducible exact ih0 _ _ _ _ _ _ _)
    | (with_reducible exact zR.mono _ _ _ _)
    | (with_reducible exact zQ.mono _ _)
    | (with_reducible exact LeO.refl _)
    | (with_reducible exact LeO.none _)
    | (with_reducible refine LeO.ite ?_ ?_)
    | (with_reducible refine LeO.bind ?_ (fun _=>?_))
    | exact ih0 _ _ _ _ _ _ _
    | exact zR.mono _ _ _ _
    | exact zQ.mono _ _
    | exact LeO.none _
    | refine LeO.ite ?_ ?_
    | refine LeO.bind ?_ (fun _=>?_)
theorem zm.mono : ∀ a0 a1 a2 a3 a4 k,LeO (zm.f k a0 a1 a2 a3 a4) (zm.f (k + 1) a0 a1 a2 a3 a4):=by
 intro a0 a1 a2 a3 a4 k
 have ih0:=zm.z17 k
 unfold zm.f
 repeat' first
  | (with_reducible exact ih0 _ _ _ _ _ _ _)
  | (with_reducible exact zR.mono _ _ _ _)
  | (with_reducible exact zQ.mono _ _)
  | (with_reducible exact LeO.refl _)
  | (with_reducible exact LeO.none _)
  | (with_reducible refine LeO.ite ?_ ?_)
  | (with_reducible refine LeO.bind ?_ (fun _=>?_))
  | exact ih0 _ _ _ _ _ _ _
  | exact zR.mono _ _ _ _
  | exact zQ.mono _ _
  | exact LeO.none _
  | refine LeO.ite ?_ ?_
  | refine LeO.bind ?_ (fun _=>?_)
set_option maxHeartbeats 8000000 in
set_option maxRecDepth 100000 in
theorem zm.calls (k : Nat) (a0 : Int) (a1_0 : Int) (a1_1 : Int) (a2_0 : Int) (a2_1 : Int) (r : List (S40)) (w : World) (h : zm.f k a0 a1_0 a1_1 a2_0 a2_1 = some r) :
 Calls Try.prog 97 #[.int .i64 a0,.agg #[.int .u64 a1_0,.int .u64 a1_1],.agg #[.int .u64 a2_0,.int .u64 a2_1]] w fun e w'=>∃ v0_ : Value,e = .returned (v0_) ∧ Kd.R k40 40 w' w.heap.size (fun _=>True) v0_ r ∧ Below w.heap.size w w':=by
 have hu40:=Try.underlying40
 have HB:=z1.mk (Below.refl w.heap.size w)
 have H : (zm.l0 k a0 ([] : List (S40)) 0 a1_0 a1_1 a2_0 a2_1) = some r:=h
 clear h
 have H':=z1.mk H
 clear H
 go_enter Try.func97,Try.ntmps97
 go_wp2_with (first|((with_reducible refine zF (N:=4) rfl ?_);refine zG ?hg (N:=4) ?hd (cs:=#[.int .u64 a1_0,.int .u64 a1_1]) (t:=40) ?hr ?_;(case hd=>rfl);(case hg=>rfl);(case hr=>first|(go_simp;done)|(go_simp;rfl));intro gb101 hg w4 hbox hb;have n0_:=z1.mk (z4 zz28 hb);have n1_:=z1.mk (hbox);have n2_:=z1.mk ((by rw [hg];exact (z5 zz28) : w.heap.size ≤ gb101));have n3_:=z1.mk ((by rw [hg];exact (z5 zz28) : w.heap.size ≤ gb101));clear HB;have HB:=n0_;have BK101:=n1_;have GW101:=n2_;have GE101:=n3_;clear n0_ n1_ n2_ n3_;clear hb hbox hg)|((with_reducible refine zF (N:=5) rfl ?_);refine zG ?hg (N:=5) ?hd (cs:=#[.int .u64 a2_0,.int .u64 a2_1]) (t:=40) ?hr ?_;(case hd=>rfl);(case hg=>rfl);(case hr=>first|(go_simp;done)|(go_simp;rfl));intro gb102 hg w5 hbox hb;have n0_:=z1.mk (zg (g:=gb101) (o:=.cells #[.int .u64 a1_0,.int .u64 a1_1] 40 (0,0)) zz29 hb);have n1_:=z1.mk (z4 zz25 hb);have n2_:=z1.mk (hbox);have n3_:=z1.mk ((by rw [hg];exact (z5 zz25) : w.heap.size ≤ gb102));have n4_:=z1.mk ((by rw [hg];exact (z5 zz25) : w.heap.size ≤ gb102));have n5_:=z1.mk ((by rw [hg];exact Nat.ne_of_lt (zU (g:=gb101) (o:=.cells #[.int .u64 a1_0,.int .u64 a1_1] 40 (0,0)) zz29) : gb101 ≠ gb102));have n6_:=z1.mk ((by rw [hg];exact Nat.ne_of_gt (zU (g:=gb101) (o:=.cells #[.int .u64 a1_0,.int .u64 a1_1] 40 (0,0)) zz29) : gb102 ≠ gb101));clear BK101;clear HB;have BK101:=n0_;have HB:=n1_;have BK102:=n2_;have GW102:=n3_;have GE102:=n4_;have NB101_102:=n5_;have NB102_101:=n6_;clear n0_ n1_ n2_ n3_ n4_ n5_ n6_;clear hb hbox hg))
 go_loopg [7,8] k (fun kq v7 v8 w'=>∃ (x7_1 : List (S40)) (x8_1 : Int),v8 = .int .i64 x8_1 ∧ z1 (zm.l0 kq a0 x7_1 x8_1 a1_0 a1_1 a2_0 a2_1 = some r) ∧ z1 (kq ≤ k) ∧ z1 (Kd.R k40 40 w' w.heap.size (fun k_=>k_ ≠ gb101 ∧ k_ ≠ gb102) v7 x7_1) ∧ z1 (w'.heap[gb101]? = some (.cells #[.int .u64 a1_0,.int .u64 a1_1] 40 (0,0))) ∧ z1 (w'.heap[gb102]? = some (.cells #[.int .u64 a2_0,.int .u64 a2_1] 40 (0,0))) ∧ z1 (Below w.heap.size w w'))
 case atStart=>exact ⟨(([] : List (S40))),(0),zz75,H',⟨Nat.le_refl _⟩,⟨by first|exact Kd.z3f _ _ _ _ _|exact Kd.z3P _ _ _ _ _|exact Kd.z3S _ _ _ _ _|exact Kd.z3Q _ _ _ _ _|exact Kd.z3R _ _ _ _ _⟩,⟨by (with_reducible repeat (first|refine zb ?_ _|refine zf ?_|refine za ?_ _));exact BK101.out⟩,⟨by (with_reducible repeat (first|refine zb ?_ _|refine zf ?_|refine za ?_ _));exact BK102.out⟩,⟨by repeat (first|(with_reducible first|exact HB.out|apply z7|apply z2|apply z6|refine zd ?_ GE101.out|refine zd ?_ GE102.out)|exact HB.out)⟩⟩
 case round =>
  clear H'
  (try clear p2)
  obtain ⟨x7_1,x8_1,rfl,HA,HK1,HO_7,BK101,BK102,HB⟩:=hrel
  cases gk with
  | zero=>exact absurd HA.out (by simp [zm.l0])
  | succ k1 =>
   have H:=HA.out
   clear HA
   simp only [zm.l0] at H
   replace H:=Option.bind_eq_some_iff.mp H
   obtain ⟨t103,A60,H⟩:=H
   replace H : (if x8_1 < t103 then ((zR.f k1 a1_0 a1_1 x8_1).bind fun t105=>(if t105 = true then (if x7_1.length < 8796093022208 then (zm.l0 k1 a0 (x7_1 ++ [(⟨a2_0,a2_1⟩ : S40)]) (wrap64 (x8_1 + 1)) a1_0 a1_1 a2_0 a2_1) else (none)) else (if x7_1.length < 8796093022208 then (zm.l0 k1 a0 (x7_1 ++ [(⟨0,0⟩ : S40)]) (wrap64 (x8_1 + 1)) a1_0 a1_1 a2_0 a2_1) else (none)))) else (some x7_1)) = some r:=H
   have A6:=z1.mk A60
   clear A60
   by_cases c7 : x8_1 < t103
   rotate_left
   · rw [if_neg c7] at H
     have c7b0 : decide (x8_1 < t103) = false:=decide_eq_false c7
     clear c7
     obtain rfl:=Option.some.inj H
     go_wp2_with (first|((with_reducible refine zl (f:=96) rfl ?_);refine goesL_ (some 12) rfl rfl Try.func96 zz78 rfl #[.int .i64 a0] rfl zz27 ?_;(with_reducible refine (zQ.calls k1 a0 t103 _ A6.out).mono ?_);rintro e w' ⟨rfl,⟨nd,rfl⟩⟩;refine ⟨_,rfl,?_⟩))
     go_ret
     exact ⟨_,by first|rfl|(simp [zi,zj] <;> rfl)|(simp [*,zi,zj] <;> rfl),by (with_reducible repeat (first|apply Kd.zC|apply Kd.zD|apply Kd.zO));exact Kd.z16 HO_7.out (fun _ hk=>trivial),by repeat (first|(with_reducible first|exact HB.out|apply z7|apply z2|apply z6|refine zd ?_ GE101.out|refine zd ?_ GE102.out)|exact HB.out)⟩
   rw [if_pos c7] at H
   have c7b0 : decide (x8_1 < t103) = true:=decide_eq_true c7
   clear c7
   replace H:=Option.bind_eq_some_iff.mp H
   obtain ⟨t105,A80,H⟩:=H
   replace H : (if t105 = true then (if x7_1.length < 8796093022208 then (zm.l0 k1 a0 (x7_1 ++ [(⟨a2_0,a2_1⟩ : S40)]) (wrap64 (x8_1 + 1)) a1_0 a1_1 a2_0 a2_1) else (none)) else (if x7_1.length < 8796093022208 then (zm.l0 k1 a0 (x7_1 ++ [(⟨0,0⟩ : S40)]) (wrap64 (x8_1 + 1)) a1_0 a1_1 a2_0 a2_1) else (none))) = some r:=H
   have A8:=z1.mk A80
   clear A80
   by_cases c9 : t105 = true
   · subst c9
     have H1 : (if x7_1.length < 8796093022208 then (zm.l0 k1 a0 (x7_1 ++ [(⟨a2_0,a2_1⟩ : S40)]) (wrap64 (x8_1 + 1)) a1_0 a1_1 a2_0 a2_1) else (none)) = some r:=by rw [if_pos rfl] at H;exact H
     clear H
     have H:=H1
     clear H1
     by_cases c10 : x7_1.length < 8796093022208
     rotate_left
     · rw [if_neg c10] at H
       exact absurd H zz81
     rw [if_pos c10] at H
     have LMc10:=z1.mk c10
     clear c10
     obtain ⟨y106,hy106⟩ : ∃ y_ : List (S40),y_ = (x7_1 ++ [(⟨a2_0,a2_1⟩ : S40)]):=⟨_,rfl⟩
     replace H : (zm.l0 k1 a0 y106 (wrap64 (x8_1 + 1)) a1_0 a1_1 a2_0 a2_1) = some r:=by first|(rw [hy106];with_reducible exact H)|(have H2_:=(Option.bind_some _ _).symm.trans H;rw [hy106];with_reducible exact H2_)|(have H2_:=(Option.bind_some _ _).symm.trans H;with_reducible exact H2_)|with_reducible exact H|(rw [hy106];exact H)|exact H
     have Ny106:=z1.mk hy106
     clear hy106
     have H':=z1.mk H
     clear H
     go_wp2_with (first|((with_reducible refine zl (f:=96) rfl ?_);refine goesL_ (some 12) rfl rfl Try.func96 zz78 rfl #[.int .i64 a0] rfl zz27 ?_;(with_reducible refine (zQ.calls k1 a0 t103 _ A6.out).mono ?_);rintro e w' ⟨rfl,⟨nd,rfl⟩⟩;refine ⟨_,rfl,?_⟩;(try (rw [z4I wr];generalize hq_ : World.drewN wr _ = wr;have n0_ : z1 (Kd.R k40 40 wr w.heap.size (fun k_=>k_ ≠ gb101 ∧ k_ ≠ gb102) u7 x7_1):=⟨by rw [← hq_];exact zz58⟩;have n1_ : z1 (wr.heap[gb101]? = some (.cells #[.int .u64 a1_0,.int .u64 a1_1] 40 (0,0))):=⟨by rw [← hq_];exact zz29⟩;have n2_ : z1 (wr.heap[gb102]? = some (.cells #[.int .u64 a2_0,.int .u64 a2_1] 40 (0,0))):=⟨by rw [← hq_];exact zz30⟩;have n3_ : z1 (Below w.heap.size w wr):=⟨by rw [← hq_];exact zz22⟩;clear HO_7 BK101 BK102 HB hq_;have HO_7:=n0_;have BK101:=n1_;have BK102:=n2_;have HB:=n3_;clear n0_ n1_ n2_ n3_)))|((with_reducible refine zF (N:=9) rfl ?_);refine zG ?hg (N:=9) ?hd (cs:=#[.int .u64 0,.int .u64 0]) (t:=40) ?hr ?_;(case hd=>rfl);(case hg=>rfl);(case hr=>first|(go_simp;done)|(go_simp;rfl));intro gb104 hg w11 hbox hb;have n0_:=z1.mk (Kd.zJ (Kd.z1U zz58 gb104 (Nat.le_of_eq hg.symm)) hb);have n1_:=z1.mk (zg (g:=gb101) (o:=.cells #[.int .u64 a1_0,.int .u64 a1_1] 40 (0,0)) zz29 hb);have n2_:=z1.mk (zg (g:=gb102) (o:=.cells #[.int .u64 a2_0,.int .u64 a2_1] 40 (0,0)) zz30 hb);have n3_:=z1.mk (z4 zz22 hb);have n4_:=z1.mk (hbox);have n5_:=z1.mk ((by rw [hg];exact (z5 zz22) : w.heap.size ≤ gb104));have n6_:=z1.mk ((by rw [hg];exact (z5 zz22) : w.heap.size ≤ gb104));have n7_:=z1.mk ((by rw [hg];exact Nat.ne_of_lt (zU (g:=gb101) (o:=.cells #[.int .u64 a1_0,.int .u64 a1_1] 40 (0,0)) zz29) : gb101 ≠ gb104));have n8_:=z1.mk ((by rw [hg];exact Nat.ne_of_gt (zU (g:=gb101) (o:=.cells #[.int .u64 a1_0,.int .u64 a1_1] 40 (0,0)) zz29) : gb104 ≠ gb101));have n9_:=z1.mk ((by rw [hg];exact Nat.ne_of_lt (zU (g:=gb102) (o:=.cells #[.int .u64 a2_0,.int .u64 a2_1] 40 (0,0)) zz30) : gb102 ≠ gb104));have n10_:=z1.mk ((by rw [hg];exact Nat.ne_of_gt (zU (g:=gb102) (o:=.cells #[.int .u64 a2_0,.int .u64 a2_1] 40 (0,0)) zz30) : gb104 ≠ gb102));clear HO_7;clear BK101;clear BK102;clear HB;have HO_7:=n0_;have BK101:=n1_;have BK102:=n2_;have HB:=n3_;have BK104:=n4_;have GW104:=n5_;have GE104:=n6_;have NB101_104:=n7_;have NB104_101:=n8_;have NB102_104:=n9_;have NB104_102:=n10_;clear n0_ n1_ n2_ n3_ n4_ n5_ n6_ n7_ n8_ n9_ n10_;clear hb hbox hg;have hnb12:=NB101_102.out;have hnc12:=NB102_101.out;have hnb13:=NB101_104.out;have hnc13:=NB104_101.out;have hcz14_0 : w11.cell? ⟨gb101,0,none⟩ = some (.int .u64 a1_0):=(zc BK101.out 0).trans rfl;have hcz14_1 : w11.cell? ⟨gb101,1,none⟩ = some (.int .u64 a1_1):=(zc BK101.out 1).trans rfl;have hfz14_0:=z8 BK101.out 0;have hfz14_1:=z8 BK101.out 1)|((with_reducible refine zl (f:=104) rfl ?_);refine goesL_ (some 18) rfl rfl Try.func104 zz78 rfl #[.agg #[.int .u64 a1_0,.int .u64 a1_1],.int .i64 x8_1] rfl zz27 ?_;(with_reducible refine (zR.calls k1 a1_0 a1_1 x8_1 true _ A8.out).mono ?_);rintro e w15 ⟨rfl,hb⟩;refine ⟨_,rfl,?_⟩;have n0_:=z1.mk (Kd.zJ zz58 hb);have n1_:=z1.mk (zg (g:=gb101) (o:=.cells #[.int .u64 a1_0,.int .u64 a1_1] 40 (0,0)) zz29 hb);have n2_:=z1.mk (zg (g:=gb102) (o:=.cells #[.int .u64 a2_0,.int .u64 a2_1] 40 (0,0)) zz30 hb);have n3_:=z1.mk (zg (g:=gb104) (o:=.cells #[.int .u64 0,.int .u64 0] 40 (0,0)) zz32 hb);have n4_:=z1.mk (z4 zz20 hb);clear HO_7;clear BK101;clear BK102;clear BK104;clear HB;have HO_7:=n0_;have BK101:=n1_;have BK102:=n2_;have BK104:=n3_;have HB:=n4_;clear n0_ n1_ n2_ n3_ n4_;(try clear hb);(try clear hb2);(try clear hk);(try clear hi);have hnb16:=NB102_104.out;have hnc16:=NB104_102.out;have hcz17_0 : w15.cell? ⟨gb102,0,none⟩ = some (.int .u64 a2_0):=(zc BK102.out 0).trans rfl;have hcz17_1 : w15.cell? ⟨gb102,1,none⟩ = some (.int .u64 a2_1):=(zc BK102.out 1).trans rfl;have hfz17_0:=z8 BK102.out 0;have hfz17_1:=z8 BK102.out 1;have hcz18_0 : w15.cell? ⟨gb104,0,none⟩ = some (.int .u64 0):=(zc BK104.out 0).trans rfl;have hcz18_1 : w15.cell? ⟨gb104,1,none⟩ = some (.int .u64 0):=(zc BK104.out 1).trans rfl;have hfz18_0:=z8 BK104.out 0;have hfz18_1:=z8 BK104.out 1)|((with_reducible refine z2k (b:=.append) (xs:=#[.tmp 20,.tmp 22]) rfl ?_);at_builtin;refine Kd.z3T k40 (w0:=w) w.heap.size rfl (.tmp 20) (.tmp 22) 36 40 (.agg #[(.int .u64 0),(.int .u64 0)]) 16 rfl Try.underlying36 info40 rfl zz79 zz80 u7 x7_1 (⟨a2_0,a2_1⟩ : S40) [.int .u64 a2_0,.int .u64 a2_1] (fun k_=>k_ ≠ gb101 ∧ k_ ≠ gb102 ∧ k_ ≠ gb104) (fun _=>False) rfl (by first|(go_simp;done)|(go_simp;rfl)) ?aP (fun _ hk=>hk.elim) ?aF ?aO ?aB ?aS ?aL ?_;(case aP=>exact z4b _ _ _ (⟨a2_0,a2_1⟩ : S40));(case aB=>exact zz20);(case aF=>exact (fun k_ hk=>⟨Kd.freshB (g:=gb101) (o:=.cells #[.int .u64 a1_0,.int .u64 a1_1] 40 (0,0)) zz9 k_ hk,Kd.freshB (g:=gb102) (o:=.cells #[.int .u64 a2_0,.int .u64 a2_1] 40 (0,0)) zz10 k_ hk,Kd.freshB (g:=gb104) (o:=.cells #[.int .u64 a2_0,.int .u64 a2_1] 40 (0,0)) zz6 k_ hk⟩));(case aO=>exact (by (with_reducible repeat (first|apply Kd.zC|apply Kd.zD|apply Kd.zO));exact Kd.z16 (Kd.z2u (p:=⟨gb104,1,none⟩) (Kd.z2u (p:=⟨gb104,0,none⟩) (Kd.z16 HO_7.out (fun k_ hk=>(⟨hk,hk.2⟩ : _ ∧ k_ ≠ gb104))) (fun _ hk=>hk.2) (.int .u64 a2_0)) (fun _ hk=>hk.2) (.int .u64 a2_1)) (fun _ hk=>⟨hk.1.1.1,⟨hk.1.1.2,hk.1.2⟩⟩)));(case aS=>exact (z5 zz20));(case aL=>have:=LMc10.out;omega);intro v107 w19 ho hb hg hat;rw [← Ny106.out] at ho;have n0_:=z1.mk (z26 (g:=gb101) (o:=.cells #[.int .u64 a1_0,.int .u64 a1_1] 40 (0,0)) zz9 hg (Kd.z2x HO_7.out (fun _ hk=>hk.1.1)));have n1_:=z1.mk (z26 (g:=gb102) (o:=.cells #[.int .u64 a2_0,.int .u64 a2_1] 40 (0,0)) zz10 hg (Kd.z2x HO_7.out (fun _ hk=>hk.1.2)));have n2_:=z1.mk (z26 (g:=gb104) (o:=.cells #[.int .u64 a2_0,.int .u64 a2_1] 40 (0,0)) zz6 hg (Kd.z2x HO_7.out (fun _ hk=>hk.2)));have n3_:=z1.mk (hb);have n4_:=z1.mk (ho);clear BK101;clear BK102;clear BK104;clear HB;clear HO_7;have BK101:=n0_;have BK102:=n1_;have BK104:=n2_;have HB:=n3_;have HO108:=n4_;clear n0_ n1_ n2_ n3_ n4_;clear ho hb hg hat))
     go_roundg k1
     case measure=>have:=HK1.out;omega
     case rel=>exact ⟨(y106),(wrap64 (x8_1 + 1)),zz75,H',⟨by have:=HK1.out;omega⟩,⟨by (with_reducible repeat (first|apply Kd.zC|apply Kd.zD|apply Kd.zO));exact Kd.z16 HO108.out (fun _ hk=>⟨hk.1,hk.2.1⟩)⟩,⟨by (with_reducible repeat (first|refine zb ?_ _|refine zf ?_|refine za ?_ _));exact BK101.out⟩,⟨by (with_reducible repeat (first|refine zb ?_ _|refine zf ?_|refine za ?_ _));exact BK102.out⟩,⟨by repeat (first|(with_reducible first|exact HB.out|apply z7|apply z2|apply z6|refine zd ?_ GE101.out|refine zd ?_ GE102.out|refine zd ?_ GE104.out)|exact HB.out)⟩⟩
   replace c9:=Bool.eq_false_iff.mpr c9
   subst c9
   have H1 : (if x7_1.length < 8796093022208 then (zm.l0 k1 a0 (x7_1 ++ [(⟨0,0⟩ : S40)]) (wrap64 (x8_1 + 1)) a1_0 a1_1 a2_0 a2_1) else (none)) = some r:=by rw [if_neg (show ¬ (false = true) by decide)] at H;exact H
   clear H
   have H:=H1
   clear H1
   by_cases c20 : x7_1.length < 8796093022208
   rotate_left
   · rw [if_neg c20] at H
     exact absurd H zz81
   rw [if_pos c20] at H
   have LMc20:=z1.mk c20
   clear c20
   obtain ⟨y109,hy109⟩ : ∃ y_ : List (S40),y_ = (x7_1 ++ [(⟨0,0⟩ : S40)]):=⟨_,rfl⟩
   replace H : (zm.l0 k1 a0 y109 (wrap64 (x8_1 + 1)) a1_0 a1_1 a2_0 a2_1) = some r:=by first|(rw [hy109];with_reducible exact H)|(have H2_:=(Option.bind_some _ _).symm.trans H;rw [hy109];with_reducible exact H2_)|(have H2_:=(Option.bind_some _ _).symm.trans H;with_reducible exact H2_)|with_reducible exact H|(rw [hy109];exact H)|exact H
   have Ny109:=z1.mk hy109
   clear hy109
   have H':=z1.mk H
   clear H
   go_wp2_with (first|((with_reducible refine zl (f:=96) rfl ?_);refine goesL_ (some 12) rfl rfl Try.func96 zz78 rfl #[.int .i64 a0] rfl zz27 ?_;(with_reducible refine (zQ.calls k1 a0 t103 _ A6.out).mono ?_);rintro e w' ⟨rfl,⟨nd,rfl⟩⟩;refine ⟨_,rfl,?_⟩)|((with_reducible refine zF (N:=9) rfl ?_);refine zG ?hg (N:=9) ?hd (cs:=#[.int .u64 0,.int .u64 0]) (t:=40) ?hr ?_;(case hd=>rfl);(case hg=>rfl);(case hr=>first|(go_simp;done)|(go_simp;rfl));intro gb104 hg w21 hbox hb;have n0_:=z1.mk (Kd.zJ (Kd.z1U zz58 gb104 (Nat.le_of_eq hg.symm)) hb);have n1_:=z1.mk (zg (g:=gb101) (o:=.cells #[.int .u64 a1_0,.int .u64 a1_1] 40 (0,0)) zz29 hb);have n2_:=z1.mk (zg (g:=gb102) (o:=.cells #[.int .u64 a2_0,.int .u64 a2_1] 40 (0,0)) zz30 hb);have n3_:=z1.mk (z4 zz22 hb);have n4_:=z1.mk (hbox);have n5_:=z1.mk ((by rw [hg];exact (z5 zz22) : w.heap.size ≤ gb104));have n6_:=z1.mk ((by rw [hg];exact (z5 zz22) : w.heap.size ≤ gb104));have n7_:=z1.mk ((by rw [hg];exact Nat.ne_of_lt (zU (g:=gb101) (o:=.cells #[.int .u64 a1_0,.int .u64 a1_1] 40 (0,0)) zz29) : gb101 ≠ gb104));have n8_:=z1.mk ((by rw [hg];exact Nat.ne_of_gt (zU (g:=gb101) (o:=.cells #[.int .u64 a1_0,.int .u64 a1_1] 40 (0,0)) zz29) : gb104 ≠ gb101));have n9_:=z1.mk ((by rw [hg];exact Nat.ne_of_lt (zU (g:=gb102) (o:=.cells #[.int .u64 a2_0,.int .u64 a2_1] 40 (0,0)) zz30) : gb102 ≠ gb104));have n10_:=z1.mk ((by rw [hg];exact Nat.ne_of_gt (zU (g:=gb102) (o:=.cells #[.int .u64 a2_0,.int .u64 a2_1] 40 (0,0)) zz30) : gb104 ≠ gb102));clear HO_7;clear BK101;clear BK102;clear HB;have HO_7:=n0_;have BK101:=n1_;have BK102:=n2_;have HB:=n3_;have BK104:=n4_;have GW104:=n5_;have GE104:=n6_;have NB101_104:=n7_;have NB104_101:=n8_;have NB102_104:=n9_;have NB104_102:=n10_;clear n0_ n1_ n2_ n3_ n4_ n5_ n6_ n7_ n8_ n9_ n10_;clear hb hbox hg;have hnb22:=NB101_102.out;have hnc22:=NB102_101.out;have hnb23:=NB101_104.out;have hnc23:=NB104_101.out;have hcz24_0 : w21.cell? ⟨gb101,0,none⟩ = some (.int .u64 a1_0):=(zc BK101.out 0).trans rfl;have hcz24_1 : w21.cell? ⟨gb101,1,none⟩ = some (.int .u64 a1_1):=(zc BK101.out 1).trans rfl;have hfz24_0:=z8 BK101.out 0;have hfz24_1:=z8 BK101.out 1)|((with_reducible refine zl (f:=104) rfl ?_);refine goesL_ (some 18) rfl rfl Try.func104 zz78 rfl #[.agg #[.int .u64 a1_0,.int .u64 a1_1],.int .i64 x8_1] rfl zz27 ?_;(with_reducible refine (zR.calls k1 a1_0 a1_1 x8_1 false _ A8.out).mono ?_);rintro e w25 ⟨rfl,hb⟩;refine ⟨_,rfl,?_⟩;have n0_:=z1.mk (Kd.zJ zz58 hb);have n1_:=z1.mk (zg (g:=gb101) (o:=.cells #[.int .u64 a1_0,.int .u64 a1_1] 40 (0,0)) zz29 hb);have n2_:=z1.mk (zg (g:=gb102) (o:=.cells #[.int .u64 a2_0,.int .u64 a2_1] 40 (0,0)) zz30 hb);have n3_:=z1.mk (zg (g:=gb104) (o:=.cells #[.int .u64 0,.int .u64 0] 40 (0,0)) zz32 hb);have n4_:=z1.mk (z4 zz20 hb);clear HO_7;clear BK101;clear BK102;clear BK104;clear HB;have HO_7:=n0_;have BK101:=n1_;have BK102:=n2_;have BK104:=n3_;have HB:=n4_;clear n0_ n1_ n2_ n3_ n4_;(try clear hb);(try clear hb2);(try clear hk);(try clear hi);have hnb26:=NB104_102.out;have hnc26:=NB102_104.out;have hcz27_0 : w25.cell? ⟨gb104,0,none⟩ = some (.int .u64 0):=(zc BK104.out 0).trans rfl;have hcz27_1 : w25.cell? ⟨gb104,1,none⟩ = some (.int .u64 0):=(zc BK104.out 1).trans rfl;have hfz27_0:=z8 BK104.out 0;have hfz27_1:=z8 BK104.out 1)|((with_reducible refine z2k (b:=.append) (xs:=#[.tmp 20,.tmp 22]) rfl ?_);at_builtin;refine Kd.z3T k40 (w0:=w) w.heap.size rfl (.tmp 20) (.tmp 22) 36 40 (.agg #[(.int .u64 0),(.int .u64 0)]) 16 rfl Try.underlying36 info40 rfl zz79 zz80 u7 x7_1 (⟨0,0⟩ : S40) [.int .u64 0,.int .u64 0] (fun k_=>k_ ≠ gb101 ∧ k_ ≠ gb102 ∧ k_ ≠ gb104) (fun _=>False) rfl rfl ?aP (fun _ hk=>hk.elim) ?aF ?aO ?aB ?aS ?aL ?_;(case aP=>exact z4b _ _ _ (⟨0,0⟩ : S40));(case aB=>exact zz20);(case aF=>exact (fun k_ hk=>⟨Kd.freshB (g:=gb101) (o:=.cells #[.int .u64 a1_0,.int .u64 a1_1] 40 (0,0)) zz29 k_ hk,Kd.freshB (g:=gb102) (o:=.cells #[.int .u64 a2_0,.int .u64 a2_1] 40 (0,0)) zz30 k_ hk,Kd.freshB (g:=gb104) (o:=.cells #[.int .u64 0,.int .u64 0] 40 (0,0)) zz32 k_ hk⟩));(case aO=>exact (by (with_reducible repeat (first|apply Kd.zC|apply Kd.zD|apply Kd.zO));exact Kd.z16 HO_7.out (fun _ hk=>⟨hk.1.1,⟨hk.1.2,hk.2⟩⟩)));(case aS=>exact (z5 zz20));(case aL=>have:=LMc20.out;omega);intro v110 w28 ho hb hg hat;rw [← Ny109.out] at ho;have n0_:=z1.mk (z26 (g:=gb101) (o:=.cells #[.int .u64 a1_0,.int .u64 a1_1] 40 (0,0)) zz29 hg (Kd.z2x HO_7.out (fun _ hk=>hk.1.1)));have n1_:=z1.mk (z26 (g:=gb102) (o:=.cells #[.int .u64 a2_0,.int .u64 a2_1] 40 (0,0)) zz30 hg (Kd.z2x HO_7.out (fun _ hk=>hk.1.2)));have n2_:=z1.mk (z26 (g:=gb104) (o:=.cells #[.int .u64 0,.int .u64 0] 40 (0,0)) zz32 hg (Kd.z2x HO_7.out (fun _ hk=>hk.2)));have n3_:=z1.mk (hb);have n4_:=z1.mk (ho);clear BK101;clear BK102;clear BK104;clear HB;clear HO_7;have BK101:=n0_;have BK102:=n1_;have BK104:=n2_;have HB:=n3_;have HO111:=n4_;clear n0_ n1_ n2_ n3_ n4_;clear ho hb hg hat))
   go_roundg k1
   case measure=>have:=HK1.out;omega
   case rel=>exact ⟨(y109),(wrap64 (x8_1 + 1)),zz75,H',⟨by have:=HK1.out;omega⟩,⟨by (with_reducible repeat (first|apply Kd.zC|apply Kd.zD|apply Kd.zO));exact Kd.z16 HO111.out (fun _ hk=>⟨hk.1,hk.2.1⟩)⟩,⟨by (with_reducible repeat (first|refine zb ?_ _|refine zf ?_|refine za ?_ _));exact BK101.out⟩,⟨by (with_reducible repeat (first|refine zb ?_ _|refine zf ?_|refine za ?_ _));exact BK102.out⟩,⟨by repeat (first|(with_reducible first|exact HB.out|apply z7|apply z2|apply z6|refine zd ?_ GE101.out|refine zd ?_ GE102.out|refine zd ?_ GE104.out)|exact HB.out)⟩⟩
end Go.Proofs.Ytkhmpaooinpfoaa.P
namespace Go.Proofs.Ytkhmpaooinpfoaa.P
open Go.RowKit Go.Proofs.YtkhmpaooinpfoaaW.PrintWords Go.Proofs.YtkhmpaooinpfoaaW.PrintLast Go.Proofs.YtkhmpaooinpfoaaW.PrintMore
attribute [local go_sem] z12 z14 z1b z1c zW zX z13 z15   -- for this text's walks alone
set_option linter.unusedVariables false
set_option linter.unusedSimpArgs false
def zn.l0 : Nat → Int → List (S40) → List (S40) → Int → Option ((List (S40)))
 | 0,_,_,_,_=>none
 | k + 1,x0,x1,x6,x7=>if x7 < (x1.length : Int) then (if 0 ≤ x7 then ((zt.f k x7).bind fun bt106=>((zm.f k x0 ((zT x1 x7).f0) ((zT x1 x7).f1) bt106.1 bt106.2).bind fun t108=>((zk.f k x6 t108).bind fun t111=>(zn.l0 k x0 x1 t111 (wrap64 (x7 + 1)))))) else (none)) else (some x6)
def zn.f (k : Nat) (a0 : Int) (l1 : List (S40)) : Option ((List (S40))):=(zm.f k a0 0 0 0 0).bind fun t102=>(zn.l0 k a0 l1 t102 0)
theorem zn.z17 : ∀ k,(∀ y0 y1 y2 y3,LeO (zn.l0 k y0 y1 y2 y3) (zn.l0 (k + 1) y0 y1 y2 y3))
 | 0=>fun _ _ _ _ r h=>by simp [zn.l0] at h
 | k + 1=>by
  have ih0:=zn.z17 k
  · intro y0 y1 y2 y3
    unfold zn.l0
    repeat' first
    | (with_reducible exact ih0 _ _ _ _)
    | (with_reducible exact zt.mono _ _)
    | (with_reducible exact zk.mono _ _ _)
    | (with_reducible exact zm.mono _ _ _ _ _ _)
    | (with_reducible exact LeO.refl _)
    | (with_reducible exact LeO.none _)
    | (with_reducible refine LeO.ite ?_ ?_)
    | (with_reducible refine LeO.bind ?_ (fun _=>?_))
    | exact ih0 _ _ _ _
    | exact zt.mono _ _
    | exact zk.mono _ _ _
    | exact zm.mono _ _ _ _ _ _
    | exact LeO.none _
    | refine LeO.ite ?_ ?_
    | refine LeO.bind ?_ (fun _=>?_)
theorem zn.mono : ∀ a0 a1 k,LeO (zn.f k a0 a1) (zn.f (k + 1) a0 a1):=by
 intro a0 a1 k
 have ih0:=zn.z17 k
 unfold zn.f
 repeat' first
  | (with_reducible exact ih0 _ _ _ _)
  | (with_reducible exact zt.mono _ _)
  | (with_reducible exact zk.mono _ _ _)
  | (with_reducible exact zm.mono _ _ _ _ _ _)
  | (with_reducible exact LeO.refl _)
  | (with_reducible exact LeO.none _)
  | (with_reducible refine LeO.ite ?_ ?_)
  | (with_reducible refine LeO.bind ?_ (fun _=>?_))
  | exact ih0 _ _ _ _
  | exact zt.mono _ _
  | exact zk.mono _ _ _
  | exact zm.mono _ _ _ _ _ _
  | exact LeO.none _
  | refine LeO.ite ?_ ?_
  | refine LeO.bind ?_ (fun _=>?_)
def zn.T6 : Bool × List (List Nat × List Nat):=(true,[([],[]),([],[]),([],[]),([],[]),([2,3],[2,3]),([4],[4]),([],[]),([6],[6]),([1,5,7,7],[1,5,7]),([0,8,8],[0,8]),([9,9,0,1,2,3,4,5,6,7,8,9],[0,9])])
def zn.B6 : List Nat:=[0,0,0,0,12,28,0,64,254,511,1023]
theorem zn.tab6 : rtab .any (opsOf Try.f44 6) = zn.T6:=by kernel_rfl
theorem zn.bits6 : waitsOk zn.T6.2 zn.B6 = true:=by kernel_rfl
set_option maxHeartbeats 8000000 in
set_option maxRecDepth 100000 in
theorem zn.calls (k : Nat) (a0 : Int) (A1 : Option Addr) (c1 : Nat) (l1 : List (S40)) (r : List (S40)) (w : World) (hr1 : Kd.C k40 w A1 l1.length l1) (hc1 : l1.length ≤ c1) (h : zn.f k a0 l1 = some r) :
 Calls Try.prog 44 #[.int .i64 a0,.slice A1 l1.length c1] w fun e w'=>∃ v0_ : Value,e = .returned (v0_) ∧ Kd.R k40 40 w' w.heap.size (fun _=>True) v0_ r ∧ Below w.heap.size w w':=by
 have hu40:=Try.underlying40
 have HR1:=z1.mk hr1
 have HC1:=z1.mk hc1
 clear hr1 hc1
 have HB:=z1.mk (Below.refl w.heap.size w)
 have H : ((zm.f k a0 0 0 0 0).bind fun t102=>(zn.l0 k a0 l1 t102 0)) = some r:=h
 clear h
 replace H:=Option.bind_eq_some_iff.mp H
 obtain ⟨t102,A30,H⟩:=H
 replace H : (zn.l0 k a0 l1 t102 0) = some r:=H
 have A3:=z1.mk A30
 clear A30
 have H':=z1.mk H
 clear H
 go_enter Try.func44,Try.ntmps44
 go_wp2_with (first|((with_reducible refine zF (N:=5) rfl ?_);refine zG ?hg (N:=5) ?hd (cs:=#[.int .u64 0,.int .u64 0]) (t:=40) ?hr ?_;(case hd=>rfl);(case hg=>rfl);(case hr=>first|(go_simp;done)|(go_simp;rfl));intro gb101 hg w4 hbox hb;have n0_:=z1.mk (z4 zz28 hb);have n1_:=z1.mk (hbox);have n2_:=z1.mk ((by rw [hg];exact (z5 zz28) : w.heap.size ≤ gb101));have n3_:=z1.mk ((by rw [hg];exact (z5 zz28) : w.heap.size ≤ gb101));clear HB;have HB:=n0_;have BK101:=n1_;have GW101:=n2_;have GE101:=n3_;clear n0_ n1_ n2_ n3_;clear hb hbox hg;have hcz5_0 : w4.cell? ⟨gb101,0,none⟩ = some (.int .u64 0):=(zc BK101.out 0).trans rfl;have hcz5_1 : w4.cell? ⟨gb101,1,none⟩ = some (.int .u64 0):=(zc BK101.out 1).trans rfl;have hfz5_0:=z8 BK101.out 0;have hfz5_1:=z8 BK101.out 1)|((with_reducible refine zl (f:=97) rfl ?_);refine goesL_ (some 11) rfl rfl Try.func97 zz78 rfl #[.int .i64 a0,.agg #[.int .u64 0,.int .u64 0],.agg #[.int .u64 0,.int .u64 0]] rfl zz27 ?_;(with_reducible refine (zm.calls k a0 0 0 0 0 t102 _ A3.out).mono ?_);rintro e w6 ⟨v103,rfl,ho0,hb⟩;refine ⟨_,rfl,?_⟩;have n0_:=z1.mk (Kd.z1l (Kd.z3h ho0 (g:=gb101) (o:=.cells #[.int .u64 0,.int .u64 0] 40 (0,0)) zz29) (z5 zz25));have n1_:=z1.mk (zg (g:=gb101) (o:=.cells #[.int .u64 0,.int .u64 0] 40 (0,0)) zz29 hb);have n2_:=z1.mk (z4 zz25 hb);clear BK101;clear HB;have HO104:=n0_;have BK101:=n1_;have HB:=n2_;clear n0_ n1_ n2_;(try clear hb);(try clear hb2);(try clear hk);(try clear hi);(try clear ho0)))
 go_loopg [6,7] k (fun kq v6 v7 w'=>∃ (x6_1 : List (S40)) (x7_1 : Int),v7 = .int .i64 x7_1 ∧ z1 (zn.l0 kq a0 l1 x6_1 x7_1 = some r) ∧ z1 (kq ≤ k) ∧ z1 (Kd.R k40 40 w' w.heap.size (fun k_=>k_ ≠ gb101) v6 x6_1) ∧ z1 (w'.heap[gb101]? = some (.cells #[.int .u64 0,.int .u64 0] 40 (0,0))) ∧ z1 (Below w.heap.size w w'))
 case atStart=>exact ⟨(t102),(0),zz75,H',⟨Nat.le_refl _⟩,⟨by (with_reducible repeat (first|apply Kd.zC|apply Kd.zD|apply Kd.zO));exact Kd.z16 HO104.out (fun _ hk=>hk.2)⟩,⟨by (with_reducible repeat (first|refine zb ?_ _|refine zf ?_|refine za ?_ _));exact BK101.out⟩,⟨by repeat (first|(with_reducible first|exact HB.out|apply z7|apply z2|apply z6|refine zd ?_ GE101.out)|exact HB.out)⟩⟩
 case round =>
  clear H'
  (try clear c1);(try clear p2);(try clear c4);(try clear hcz5_0);(try clear hcz5_1);(try clear hfz5_0);(try clear hfz5_1)
  obtain ⟨x6_1,x7_1,rfl,HA,HK1,HO_6,BK101,HB⟩:=hrel
  cases gk with
  | zero=>exact absurd HA.out (by simp [zn.l0])
  | succ k1 =>
   have H:=HA.out
   clear HA
   simp only [zn.l0] at H
   by_cases c7 : x7_1 < (l1.length : Int)
   rotate_left
   · rw [if_neg c7] at H
     have c7b0 : decide (x7_1 < (l1.length : Int)) = false:=decide_eq_false c7
     clear c7
     obtain rfl:=Option.some.inj H
     go_wp2
     go_ret
     exact ⟨_,by first|rfl|(simp [zi,zj] <;> rfl)|(simp [*,zi,zj] <;> rfl),by (with_reducible repeat (first|apply Kd.zC|apply Kd.zD|apply Kd.zO));exact Kd.z16 HO_6.out (fun _ hk=>trivial),by repeat (first|(with_reducible first|exact HB.out|apply z7|apply z2|apply z6|refine zd ?_ GE101.out)|exact HB.out)⟩
   rw [if_pos c7] at H
   have c7b0 : decide (x7_1 < (l1.length : Int)) = true:=decide_eq_true c7
   clear c7
   by_cases c8 : 0 ≤ x7_1
   rotate_left
   · rw [if_neg c8] at H
     exact absurd H zz81
   rw [if_pos c8] at H
   have c8b0 : decide (0 ≤ x7_1) = true:=decide_eq_true c8
   clear c8
   replace H:=Option.bind_eq_some_iff.mp H
   obtain ⟨⟨t106,t107⟩,A90,H⟩:=H
   replace H : ((zm.f k1 a0 ((zT l1 x7_1).f0) ((zT l1 x7_1).f1) t106 t107).bind fun t108=>((zk.f k1 x6_1 t108).bind fun t111=>(zn.l0 k1 a0 l1 t111 (wrap64 (x7_1 + 1))))) = some r:=H
   have A9:=z1.mk A90
   clear A90
   replace H:=Option.bind_eq_some_iff.mp H
   obtain ⟨t108,A100,H⟩:=H
   replace H : ((zk.f k1 x6_1 t108).bind fun t111=>(zn.l0 k1 a0 l1 t111 (wrap64 (x7_1 + 1)))) = some r:=H
   have A10:=z1.mk A100
   clear A100
   replace H:=Option.bind_eq_some_iff.mp H
   obtain ⟨t111,A110,H⟩:=H
   replace H : (zn.l0 k1 a0 l1 t111 (wrap64 (x7_1 + 1))) = some r:=H
   have A11:=z1.mk A110
   clear A110
   have H':=z1.mk H
   clear H
   try go_wp2
   have n0_:=z1.mk (Kd.zO HO_6.out)
   have n1_:=z1.mk (zf BK101.out)
   have n2_:=z1.mk (z6 HB.out)
   clear HO_6
   clear BK101
   clear HB
   have HO_6:=n0_
   have BK101:=n1_
   have HB:=n2_
   clear n0_ n1_ n2_
   have p105 : 0 ≤ (x7_1 : Int):=of_decide_eq_true zz74
   have q105 : x7_1 < (l1.length : Int):=of_decide_eq_true zz74
   obtain ⟨ad105,e105,hx105_0,hx105_1⟩:=z31 HR1.out x7_1 p105 q105
   have hw105_1:=hx105_1
   have hw105_0:=hx105_0
   cases e105
   replace hx105_0:=(HB.out.cell (World.block_lt_of_cell? w _ hx105_0)).trans hx105_0
   replace hx105_1:=(HB.out.cell (World.block_lt_of_cell? w _ hx105_1)).trans hx105_1
   replace p105:=eq_true p105
   replace q105:=eq_true q105
   refine start_ (n:=11) (S:=fun w'=>w'.cell? (ad105.add ((x7_1).toNat * 2)) = some (.int .u64 ((zT l1 x7_1).f0)) ∧ w'.cell? ⟨(ad105.add ((x7_1).toNat * 2)).block,(ad105.add ((x7_1).toNat * 2)).off + 1,none⟩ = some (.int .u64 ((zT l1 x7_1).f1))) (ds:=[]) #[false,false,false,false,false,false,false,false,false,false,false] zz78 rfl rfl ⟨((HB.out.cell (World.block_lt_of_cell? w _ hw105_0)).trans hw105_0),((HB.out.cell (World.block_lt_of_cell? w _ hw105_1)).trans hw105_1)⟩ (fun hHeld=>?_);refine z22 zn.tab6 zn.bits6 (fun HT_ HW_=>?_)
   generalize wr.drew = w12 at HO_6 BK101 HB hx105_0 hx105_1 hHeld ⊢
   refine pure_ (i:=0) (N:=some 18) (v:=?_) (a':=?_) #[true,false,false,false,false,false,false,false,false,false,false] rfl rfl (z1e HT_.out zz78) (fun _ _ _ h=>h) (Or.inl ⟨by rfl,?_⟩) ?_ ?_
   rotate_left
   · intro w'
     go_simp
     with_reducible rfl
   rotate_left
   · simp only [Act.put,List.setIfInBounds_toArray,List.set_cons_zero,List.set_cons_succ,zS,zZ]
     rfl
   refine pure_ (i:=1) (N:=some 19) (v:=?_) (a':=?_) #[true,true,false,false,false,false,false,false,false,false,false] rfl rfl (z1e HT_.out zz78) (fun _ _ _ h=>h) (Or.inl ⟨by rfl,?_⟩) ?_ ?_
   rotate_left
   · intro w'
     go_simp
     with_reducible rfl
   rotate_left
   · simp only [Act.put,List.setIfInBounds_toArray,List.set_cons_zero,List.set_cons_succ,zS,zZ]
     rfl
   refine pure_ (i:=2) (N:=some 20) (v:=?_) (a':=?_) #[true,true,true,false,false,false,false,false,false,false,false] rfl rfl (z1e HT_.out zz78) (fun _ _ _ h=>h) (Or.inl ⟨by rfl,?_⟩) ?_ ?_
   rotate_left
   · intro w'
     go_simp
     with_reducible rfl
   rotate_left
   · simp only [Act.put,List.setIfInBounds_toArray,List.set_cons_zero,List.set_cons_succ,zS,zZ]
     rfl
   refine pure_ (i:=3) (N:=some 21) (v:=?_) (a':=?_) #[true,true,true,true,false,false,false,false,false,false,false] rfl rfl (z1e HT_.out zz78) (fun _ _ _ h=>h) (Or.inl ⟨by rfl,?_⟩) ?_ ?_
   rotate_left
   · intro w'
     go_simp
     with_reducible rfl
   rotate_left
   · simp only [Act.put,List.setIfInBounds_toArray,List.set_cons_zero,List.set_cons_succ,zS,zZ]
     rfl
   refine pure_ (i:=4) (N:=some 22) (v:=?_) (a':=?_) #[true,true,true,true,true,false,false,false,false,false,false] rfl rfl (z1e HT_.out zz78) (fun _ _ _ h=>h) (Or.inl ⟨by rfl,?_⟩) ?_ ?_
   rotate_left
   · intro w'
     go_simp
     with_reducible rfl
   rotate_left
   · simp only [Act.put,List.setIfInBounds_toArray,List.set_cons_zero,List.set_cons_succ,zS,zZ]
     rfl
   refine pure_ (i:=6) (N:=some 24) (v:=?_) (a':=?_) #[true,true,true,true,true,false,true,false,false,false,false] rfl rfl (z1e HT_.out zz78) (fun _ _ _ h=>h) (Or.inl ⟨by rfl,?_⟩) ?_ ?_
   rotate_left
   · intro w'
     go_simp
     with_reducible rfl
   rotate_left
   · simp only [Act.put,List.setIfInBounds_toArray,List.set_cons_zero,List.set_cons_succ,zS,zZ]
     rfl
   refine take_ (i:=5) (N:=some 23) (v:=?_) (a':=?_) #[true,true,true,true,true,true,true,false,false,false,false] rfl rfl (z1I HT_.out HW_.out zz78) (fun _ _ _ h=>h) (Or.inl ⟨by rfl,?_⟩) hHeld ?_ ?_
   rotate_left
   · rintro w' ⟨s0,s1⟩
     go_simp
     with_reducible rfl
   rotate_left
   · simp only [Act.put,List.setIfInBounds_toArray,List.set_cons_zero,List.set_cons_succ,zS,zZ]
     rfl
   refine one_ (i:=7) (N:=some 25) #[true,true,true,true,true,true,true,true,false,false,false] rfl rfl (z1J HT_.out zz78) zz79 (fun K hK=>?_)
   refine goes_ Try.func98 zz78 rfl #[.int .i64 x7_1] zz82 rfl rfl zz27 ?_
   with_reducible refine (zt.calls k1 x7_1 t106 t107 _ A9.out).mono ?_
   rintro e w13 ⟨rfl,hb⟩
   refine ⟨_,rfl,?_⟩
   have n0_:=z1.mk (Kd.zJ zz57 hb)
   have n1_:=z1.mk (zg (g:=gb101) (o:=.cells #[.int .u64 0,.int .u64 0] 40 (0,0)) zz29 hb)
   have n2_:=z1.mk (z4 zz25 hb)
   clear HO_6
   clear BK101
   clear HB
   have HO_6:=n0_
   have BK101:=n1_
   have HB:=n2_
   clear n0_ n1_ n2_
   (try clear hb)
   (try clear hb2)
   (try clear hk)
   (try clear hi)
   refine hK.out _ _ ⟨((HB.out.cell (World.block_lt_of_cell? w _ hw105_0)).trans hw105_0),((HB.out.cell (World.block_lt_of_cell? w _ hw105_1)).trans hw105_1)⟩ (fun hHeld=>?_)
   clear hK K
   refine norm_ (a':=?_) ?_ ?_
   rotate_left
   · show Act.put _ (some 25) _ = _
     simp only [Act.put,List.setIfInBounds_toArray,List.set_cons_zero,List.set_cons_succ,zS,zZ]
     rfl
   refine one_ (i:=8) (N:=some 26) #[true,true,true,true,true,true,true,true,true,false,false] rfl rfl (z1J HT_.out zz78) zz79 (fun K hK=>?_)
   refine goes_ Try.func97 zz78 rfl #[.int .i64 a0,.agg #[.int .u64 ((zT l1 x7_1).f0),.int .u64 ((zT l1 x7_1).f1)],.agg #[.int .u64 t106,.int .u64 t107]] zz82 rfl rfl zz27 ?_
   with_reducible refine (zm.calls k1 a0 ((zT l1 x7_1).f0) ((zT l1 x7_1).f1) t106 t107 t108 _ A10.out).mono ?_
   rintro e w14 ⟨v109,rfl,ho0,hb⟩
   refine ⟨_,rfl,?_⟩
   have n0_:=z1.mk (Kd.z1n zz57 (Kd.z1j ho0) hb)
   have n1_:=z1.mk (Kd.z1l (Kd.z3h (Kd.z1K ho0 (Kd.R_lt zz57)) (g:=gb101) (o:=.cells #[.int .u64 0,.int .u64 0] 40 (0,0)) zz29) (z5 zz25))
   have n2_:=z1.mk (zg (g:=gb101) (o:=.cells #[.int .u64 0,.int .u64 0] 40 (0,0)) zz29 hb)
   have n3_:=z1.mk (z4 zz25 hb)
   clear HO_6
   clear BK101
   clear HB
   have HO_6:=n0_
   have HO110:=n1_
   have BK101:=n2_
   have HB:=n3_
   clear n0_ n1_ n2_ n3_
   (try clear hb)
   (try clear hb2)
   (try clear hk)
   (try clear hi)
   (try clear ho0)
   obtain ⟨Ao15,co15,eo15⟩:=Kd.z1p HO_6.out
   (first|subst eo15|(injection eo15 with f1_ f2_ f3_;have f4_:=f1_.symm;have f5_:=f3_.symm;clear f1_ f2_ f3_;subst f4_;subst f5_))
   obtain ⟨Ao16,co16,eo16⟩:=Kd.z1p HO110.out
   (first|subst eo16|(injection eo16 with f1_ f2_ f3_;have f4_:=f1_.symm;have f5_:=f3_.symm;clear f1_ f2_ f3_;subst f4_;subst f5_))
   refine hK.out _ _ ⟨((HB.out.cell (World.block_lt_of_cell? w _ hw105_0)).trans hw105_0),((HB.out.cell (World.block_lt_of_cell? w _ hw105_1)).trans hw105_1)⟩ (fun hHeld=>?_)
   clear hK K
   refine norm_ (a':=?_) ?_ ?_
   rotate_left
   · show Act.put _ (some 26) _ = _
     simp only [Act.put,List.setIfInBounds_toArray,List.set_cons_zero,List.set_cons_succ,zS,zZ]
     rfl
   refine one_ (i:=9) (N:=some 27) #[true,true,true,true,true,true,true,true,true,true,false] rfl rfl (z1J HT_.out zz78) zz79 (fun K hK=>?_)
   refine goes_ Try.func45 zz78 rfl #[.slice Ao15 x6_1.length co15,.slice Ao16 t108.length co16] zz82 rfl rfl zz27 ?_
   with_reducible refine (zk.calls k1 _ _ x6_1 _ _ t108 t111 _ ?side1 ?side2 ?side3 ?side4 A11.out).mono ?_
   (case side1=>repeat (first|exact (Kd.zL HO_6.out).2.2|(with_reducible refine Kd.z1h ?_ _)|(with_reducible refine Kd.z1i ?_ _)|(with_reducible refine Kd.z1y ?_)))
   (case side2=>exact (Kd.zL HO_6.out).2.1)
   (case side3=>repeat (first|exact (Kd.zL HO110.out).2.2|(with_reducible refine Kd.z1h ?_ _)|(with_reducible refine Kd.z1i ?_ _)|(with_reducible refine Kd.z1y ?_)))
   (case side4=>exact (Kd.zL HO110.out).2.1)
   rintro e w17 ⟨v112,rfl,ho0,hb⟩
   refine ⟨_,rfl,?_⟩
   have n0_:=z1.mk (Kd.z1n zz57 (Kd.z1j ho0) hb)
   have n1_:=z1.mk (Kd.z1n zz43 (Kd.z1j ho0) hb)
   have n2_:=z1.mk (Kd.z1l (Kd.z3h (Kd.z1K (Kd.z1K ho0 (Kd.R_lt zz57)) (Kd.R_lt zz43)) (g:=gb101) (o:=.cells #[.int .u64 0,.int .u64 0] 40 (0,0)) zz29) (z5 zz25))
   have n3_:=z1.mk (zg (g:=gb101) (o:=.cells #[.int .u64 0,.int .u64 0] 40 (0,0)) zz29 hb)
   have n4_:=z1.mk (z4 zz25 hb)
   clear HO_6
   clear HO110
   clear BK101
   clear HB
   have HO_6:=n0_
   have HO110:=n1_
   have HO113:=n2_
   have BK101:=n3_
   have HB:=n4_
   clear n0_ n1_ n2_ n3_ n4_
   (try clear hb)
   (try clear hb2)
   (try clear hk)
   (try clear hi)
   (try clear ho0)
   refine hK.out _ _ ⟨((HB.out.cell (World.block_lt_of_cell? w _ hw105_0)).trans hw105_0),((HB.out.cell (World.block_lt_of_cell? w _ hw105_1)).trans hw105_1)⟩ (fun hHeld=>?_)
   clear hK K
   refine norm_ (a':=?_) ?_ ?_
   rotate_left
   · show Act.put _ (some 27) _ = _
     simp only [Act.put,List.setIfInBounds_toArray,List.set_cons_zero,List.set_cons_succ,zS,zZ]
     rfl
   refine pure_ (i:=10) (N:=some 6) (v:=?_) (a':=?_) #[true,true,true,true,true,true,true,true,true,true,true] rfl rfl (z1e HT_.out zz78) (fun _ _ _ h=>h) (Or.inl ⟨by rfl,?_⟩) ?_ ?_
   rotate_left
   · intro w'
     go_simp
     with_reducible rfl
   rotate_left
   · simp only [Act.put,List.setIfInBounds_toArray,List.set_cons_zero,List.set_cons_succ,zS,zZ]
     rfl
   refine done_ (z2q HT_.out zz78) ?_
   try go_wp2
   go_roundg k1
   case measure=>have:=HK1.out;omega
   case rel=>exact ⟨(t111),(wrap64 (x7_1 + 1)),zz75,H',⟨by have:=HK1.out;omega⟩,⟨by (with_reducible repeat (first|apply Kd.zC|apply Kd.zD|apply Kd.zO));exact Kd.z16 HO113.out (fun _ hk=>hk.2)⟩,⟨by (with_reducible repeat (first|refine zb ?_ _|refine zf ?_|refine za ?_ _));exact BK101.out⟩,⟨by repeat (first|(with_reducible first|exact HB.out|apply z7|apply z2|apply z6|refine zd ?_ GE101.out)|exact HB.out)⟩⟩
end Go.Proofs.Ytkhmpaooinpfoaa.P
namespace Go.Proofs.Ytkhmpaooinpfoaa.P
open Go.RowKit Go.Proofs.YtkhmpaooinpfoaaW.PrintWords Go.Proofs.YtkhmpaooinpfoaaW.PrintLast Go.Proofs.YtkhmpaooinpfoaaW.PrintMore
attribute [local go_sem] z12 z14 z1b z1c zW zX z13 z15   -- for this text's walks alone
set_option linter.unusedVariables false
set_option linter.unusedSimpArgs false
def z19.f (a0 : Int) : Option (Int):=(some (([6148914691236517205,3689348814741910323,1085102592571150095,71777214294589695,281470681808895,4294967295] : List Int) : List Int)).bind fun y101=>(if 0 ≤ a0 then (if a0 < (y101.length : Int) then (some (rd y101 a0)) else (none)) else (none))
set_option maxHeartbeats 8000000 in
set_option maxRecDepth 100000 in
theorem z19.calls (a0 : Int) (r : Int) (w : World) (h : z19.f a0 = some r) :
 Calls Try.prog 147 #[.int .i64 a0] w fun e w'=>e = .returned (.int .u64 r) ∧ Below w.heap.size w w':=by
 have HB:=z1.mk (Below.refl w.heap.size w)
 have H : ((some (([6148914691236517205,3689348814741910323,1085102592571150095,71777214294589695,281470681808895,4294967295] : List Int) : List Int)).bind fun y101=>(if 0 ≤ a0 then (if a0 < (y101.length : Int) then (some (rd y101 a0)) else (none)) else (none))) = some r:=h
 clear h
 obtain ⟨y101,hy101⟩ : ∃ y_ : List Int,y_ = (([6148914691236517205,3689348814741910323,1085102592571150095,71777214294589695,281470681808895,4294967295] : List Int)):=⟨_,rfl⟩
 replace H : (if 0 ≤ a0 then (if a0 < (y101.length : Int) then (some (rd y101 a0)) else (none)) else (none)) = some r:=by first|(rw [hy101];with_reducible exact H)|(have H2_:=(Option.bind_some _ _).symm.trans H;rw [hy101];with_reducible exact H2_)|(have H2_:=(Option.bind_some _ _).symm.trans H;with_reducible exact H2_)|with_reducible exact H|(rw [hy101];exact H)|exact H
 have Ny101:=z1.mk hy101
 clear hy101
 by_cases c2 : 0 ≤ a0
 rotate_left
 · rw [if_neg c2] at H
   exact absurd H zz81
 rw [if_pos c2] at H
 have c2b0 : decide (0 ≤ a0) = true:=decide_eq_true c2
 clear c2
 by_cases c3 : a0 < (y101.length : Int)
 rotate_left
 · rw [if_neg c3] at H
   exact absurd H zz81
 rw [if_pos c3] at H
 have c3b0 : decide (a0 < (y101.length : Int)) = true:=decide_eq_true c3
 clear c3
 obtain rfl:=Option.some.inj H
 go_enter Try.func147,Try.ntmps147
 go_wp2_with (first|((with_reducible refine zF (N:=4) rfl ?_);refine Kd.z6N (Kd.int .u64) _ 28 ?hg (N:=4) ?hd (xs:=([6148914691236517205,3689348814741910323,1085102592571150095,71777214294589695,281470681808895,4294967295] : List Int)) (inner:=[.int .u64 6148914691236517205,.int .u64 3689348814741910323,.int .u64 1085102592571150095,.int .u64 71777214294589695,.int .u64 281470681808895,.int .u64 4294967295]) (ok:=fun _=>True) (okp:=fun _=>True) ?hr ?hp (fun _ hk=>hk) trivial (Below.refl _ _) (Nat.le_refl _) zz81 ?_;(case hd=>rfl);(case hg=>rfl);(case hr=>first|(go_simp;done)|(go_simp;rfl));(case hp=>exact (Reps.one (show Kd.M (Kd.int .u64) _ _ _ 6148914691236517205 [.int .u64 6148914691236517205] from rfl) (Reps.one (show Kd.M (Kd.int .u64) _ _ _ 3689348814741910323 [.int .u64 3689348814741910323] from rfl) (Reps.one (show Kd.M (Kd.int .u64) _ _ _ 1085102592571150095 [.int .u64 1085102592571150095] from rfl) (Reps.one (show Kd.M (Kd.int .u64) _ _ _ 71777214294589695 [.int .u64 71777214294589695] from rfl) (Reps.one (show Kd.M (Kd.int .u64) _ _ _ 281470681808895 [.int .u64 281470681808895] from rfl) (Reps.one (show Kd.M (Kd.int .u64) _ _ _ 4294967295 [.int .u64 4294967295] from rfl) (Reps.none _ _))))))));intro v102 w4 ho5 hb hg_ hnew_;clear hg_ hnew_;(first|rw [← Ny101.out] at ho5|(simp only [Int.reduceToNat] at ho5;rw [← Ny101.out] at ho5));have n0_:=z1.mk (Kd.z1l ho5 (z5 zz28));have n1_:=z1.mk (z4 zz28 hb);clear HB;have HO103:=n0_;have HB:=n1_;clear n0_ n1_;clear hb ho5;obtain ⟨Ao6,co6,eo6⟩:=Kd.z1p HO103.out;subst eo6;have p104 : 0 ≤ (a0 : Int):=of_decide_eq_true zz74;have q104 : a0 < (y101.length : Int):=of_decide_eq_true zz74;obtain ⟨ad104,e104,hx104_0⟩:=Kd.at_int (Kd.zL HO103.out).2.2 a0 p104 q104;cases e104;replace p104:=eq_true p104;replace q104:=eq_true q104))
 go_ret
 exact ⟨by first|rfl|(simp [zi,zj] <;> rfl)|(simp [*,zi,zj] <;> rfl),by repeat (first|(with_reducible first|exact HB.out|apply z7|apply z2|apply z6)|exact HB.out)⟩
end Go.Proofs.Ytkhmpaooinpfoaa.P
namespace Go.Proofs.Ytkhmpaooinpfoaa.P
open Go.RowKit Go.Proofs.YtkhmpaooinpfoaaW.PrintWords Go.Proofs.YtkhmpaooinpfoaaW.PrintLast Go.Proofs.YtkhmpaooinpfoaaW.PrintMore
attribute [local go_sem] z12 z14 z1b z1c zW zX z13 z15   -- for this text's walks alone
set_option linter.unusedVariables false
set_option linter.unusedSimpArgs false
def zp.f : Nat → Int → Int → Option (Int)
 | 0,_,_=>none
 | k + 1,a0,a1=>if a0 < 0 then (some a1) else (if 0 ≤ (IntKind.u64.wrap (a0)) then ((z19.f a0).bind fun t101=>((z19.f a0).bind fun t102=>((zp.f k (wrap64 (a0 - 1)) (Go.bits .and .u64 (shr .u64 a1 (shl .u64 1 (IntKind.u64.wrap (a0)))) t101)).bind fun t103=>(some (Go.bits .or .u64 (shl .u64 (Go.bits .xor .u64 (Go.bits .and .u64 a1 t102) t103) (shl .u64 1 (IntKind.u64.wrap (a0)))) (Go.bits .and .u64 (shr .u64 a1 (shl .u64 1 (IntKind.u64.wrap (a0)))) t101)))))) else (none))
theorem zp.z17 : ∀ k,(∀ y0 y1,LeO (zp.f k y0 y1) (zp.f (k + 1) y0 y1))
 | 0=>fun _ _ r h=>by simp [zp.f] at h
 | k + 1=>by
  have ih0:=zp.z17 k
  · intro y0 y1
    unfold zp.f
    repeat' first
    | (with_reducible exact ih0 _ _)
    | (with_reducible exact LeO.refl _)
    | (with_reducible exact LeO.none _)
    | (with_reducible refine LeO.ite ?_ ?_)
    | (with_reducible refine LeO.bind ?_ (fun _=>?_))
    | exact ih0 _ _
    | exact LeO.none _
    | refine LeO.ite ?_ ?_
    | refine LeO.bind ?_ (fun _=>?_)
theorem zp.mono : ∀ a0 a1 k,LeO (zp.f k a0 a1) (zp.f (k + 1) a0 a1):=by
 intro a0 a1 k
 have ih0:=zp.z17 k
 exact ih0 a0 a1
set_option maxHeartbeats 8000000 in
set_option maxRecDepth 100000 in
theorem zp.calls (k : Nat) : ∀ (a0 : Int) (a1 : Int) (r : Int) (w : World) (h : zp.f k a0 a1 = some r),
 Calls Try.prog 137 #[.int .i64 a0,.int .u64 a1] w fun e w'=>e = .returned (.int .u64 r) ∧ Below w.heap.size w w':=by
 induction k using Nat.strongRecOn with
 | _ k ih =>
 intro a0 a1 r w h
 cases k with
 | zero=>exact absurd h (by simp [zp.f])
 | succ k =>
 simp only [zp.f] at h
 have HB:=z1.mk (Below.refl w.heap.size w)
 have H : (if a0 < 0 then (some a1) else (if 0 ≤ (IntKind.u64.wrap (a0)) then ((z19.f a0).bind fun t101=>((z19.f a0).bind fun t102=>((zp.f k (wrap64 (a0 - 1)) (Go.bits .and .u64 (shr .u64 a1 (shl .u64 1 (IntKind.u64.wrap (a0)))) t101)).bind fun t103=>(some (Go.bits .or .u64 (shl .u64 (Go.bits .xor .u64 (Go.bits .and .u64 a1 t102) t103) (shl .u64 1 (IntKind.u64.wrap (a0)))) (Go.bits .and .u64 (shr .u64 a1 (shl .u64 1 (IntKind.u64.wrap (a0)))) t101)))))) else (none))) = some r:=h
 clear h
 by_cases c3 : a0 < 0
 · rw [if_pos c3] at H
   have c3b0 : decide (a0 < 0) = true:=decide_eq_true c3
   clear c3
   obtain rfl:=Option.some.inj H
   go_enter Try.func137,Try.ntmps137
   go_wp2
   go_ret
   exact ⟨by first|rfl|(simp [zi,zj] <;> rfl)|(simp [*,zi,zj] <;> rfl),by repeat (first|(with_reducible first|exact HB.out|apply z7|apply z2|apply z6)|exact HB.out)⟩
 rw [if_neg c3] at H
 have c3b0 : decide (a0 < 0) = false:=decide_eq_false c3
 clear c3
 obtain ⟨ji4,hji4⟩ : ∃ j_ : Int,(IntKind.u64.wrap (a0)) = j_:=⟨_,rfl⟩
 replace H : (if 0 ≤ (ji4) then ((z19.f a0).bind fun t101=>((z19.f a0).bind fun t102=>((zp.f k (wrap64 (a0 - 1)) (Go.bits .and .u64 (shr .u64 a1 (shl .u64 1 (ji4))) t101)).bind fun t103=>(some (Go.bits .or .u64 (shl .u64 (Go.bits .xor .u64 (Go.bits .and .u64 a1 t102) t103) (shl .u64 1 (ji4))) (Go.bits .and .u64 (shr .u64 a1 (shl .u64 1 (ji4))) t101)))))) else (none)) = some r:=by first|(rw [hji4] at H;exact H)|(simp only [hji4] at H ⊢;exact H)
 by_cases c5 : 0 ≤ (ji4)
 rotate_left
 · rw [if_neg c5] at H
   exact absurd H zz81
 rw [if_pos c5] at H
 have c5b0:=eq_true c5
 have c5b1 : decide (0 ≤ (ji4)) = true:=decide_eq_true c5
 clear c5
 obtain ⟨ji6,hji6⟩ : ∃ j_ : Int,(shl .u64 1 (ji4)) = j_:=⟨_,rfl⟩
 replace H : ((z19.f a0).bind fun t101=>((z19.f a0).bind fun t102=>((zp.f k (wrap64 (a0 - 1)) (Go.bits .and .u64 (shr .u64 a1 (ji6)) t101)).bind fun t103=>(some (Go.bits .or .u64 (shl .u64 (Go.bits .xor .u64 (Go.bits .and .u64 a1 t102) t103) (ji6)) (Go.bits .and .u64 (shr .u64 a1 (ji6)) t101)))))) = some r:=by first|(rw [hji6] at H;exact H)|(simp only [hji6] at H ⊢;exact H)
 have hji6_ : (IntKind.u64.wrap (1 * 2 ^ min (ji4).toNat 64)) = ji6:=hji6
 have hji6z : (ji4) ≤ 64 → (IntKind.u64.wrap (1 * 2 ^ (ji4).toNat)) = ji6:=z1S hji6
 have hji6n0 : 0 ≤ ji6:=by rw [← hji6];exact Int.emod_nonneg _ zz79
 have hji6n1 : decide (0 ≤ ji6) = true:=decide_eq_true hji6n0
 replace hji6n0:=eq_true hji6n0
 have hji6u : (IntKind.u64.wrap (2 ^ min (ji4).toNat 64)) = ji6:=by have h_:=hji6_;rw [Int.one_mul] at h_;exact h_
 have hji6v : (ji4) ≤ 64 → (IntKind.u64.wrap (2 ^ (ji4).toNat)) = ji6:=fun hle_=>by have h_:=hji6z hle_;rw [Int.one_mul] at h_;exact h_
 obtain ⟨ji7,hji7⟩ : ∃ j_ : Int,(shr .u64 a1 (ji6)) = j_:=⟨_,rfl⟩
 replace H : ((z19.f a0).bind fun t101=>((z19.f a0).bind fun t102=>((zp.f k (wrap64 (a0 - 1)) (Go.bits .and .u64 (ji7) t101)).bind fun t103=>(some (Go.bits .or .u64 (shl .u64 (Go.bits .xor .u64 (Go.bits .and .u64 a1 t102) t103) (ji6)) (Go.bits .and .u64 (ji7) t101)))))) = some r:=by first|(rw [hji7] at H;exact H)|(simp only [hji7] at H ⊢;exact H)
 have hji7_ : (a1 / 2 ^ min (ji6).toNat 64) = ji7:=hji7
 have hji7z : (ji6) ≤ 64 → (a1 / 2 ^ (ji6).toNat) = ji7:=z2M hji7
 replace H:=Option.bind_eq_some_iff.mp H
 obtain ⟨t101,A80,H⟩:=H
 replace H : ((z19.f a0).bind fun t102=>((zp.f k (wrap64 (a0 - 1)) (Go.bits .and .u64 (ji7) t101)).bind fun t103=>(some (Go.bits .or .u64 (shl .u64 (Go.bits .xor .u64 (Go.bits .and .u64 a1 t102) t103) (ji6)) (Go.bits .and .u64 (ji7) t101))))) = some r:=H
 have A8:=z1.mk A80
 clear A80
 replace H:=Option.bind_eq_some_iff.mp H
 obtain ⟨t102,A90,H⟩:=H
 replace H : ((zp.f k (wrap64 (a0 - 1)) (Go.bits .and .u64 (ji7) t101)).bind fun t103=>(some (Go.bits .or .u64 (shl .u64 (Go.bits .xor .u64 (Go.bits .and .u64 a1 t102) t103) (ji6)) (Go.bits .and .u64 (ji7) t101)))) = some r:=H
 have A9:=z1.mk A90
 clear A90
 replace H:=Option.bind_eq_some_iff.mp H
 obtain ⟨t103,A100,H⟩:=H
 replace H : (some (Go.bits .or .u64 (shl .u64 (Go.bits .xor .u64 (Go.bits .and .u64 a1 t102) t103) (ji6)) (Go.bits .and .u64 (ji7) t101))) = some r:=H
 have A10:=z1.mk A100
 clear A100
 obtain ⟨ji11,hji11⟩ : ∃ j_ : Int,(shl .u64 (Go.bits .xor .u64 (Go.bits .and .u64 a1 t102) t103) (ji6)) = j_:=⟨_,rfl⟩
 replace H : (some (Go.bits .or .u64 (ji11) (Go.bits .and .u64 (ji7) t101))) = some r:=by first|(rw [hji11] at H;exact H)|(simp only [hji11] at H ⊢;exact H)
 (try rw [hji11] at A8)
 (try rw [hji11] at A9)
 (try rw [hji11] at A10)
 have hji11_ : (IntKind.u64.wrap ((Go.bits .xor .u64 (Go.bits .and .u64 a1 t102) t103) * 2 ^ min (ji6).toNat 64)) = ji11:=hji11
 have hji11z : (ji6) ≤ 64 → (IntKind.u64.wrap ((Go.bits .xor .u64 (Go.bits .and .u64 a1 t102) t103) * 2 ^ (ji6).toNat)) = ji11:=z1S hji11
 have hji11n0 : 0 ≤ ji11:=by rw [← hji11];exact Int.emod_nonneg _ zz79
 have hji11n1 : decide (0 ≤ ji11) = true:=decide_eq_true hji11n0
 replace hji11n0:=eq_true hji11n0
 obtain rfl:=Option.some.inj H
 go_enter Try.func137,Try.ntmps137
 go_wp2_with (first|((with_reducible refine zl (f:=147) rfl ?_);refine goesL_ (some 18) rfl rfl Try.func147 zz78 rfl #[.int .i64 a0] rfl zz27 ?_;(with_reducible refine (z19.calls a0 t101 _ A8.out).mono ?_);rintro e w12 ⟨rfl,hb⟩;refine ⟨_,rfl,?_⟩;have n0_:=z1.mk (z4 zz28 hb);clear HB;have HB:=n0_;clear n0_;(try clear hb);(try clear hb2);(try clear hk);(try clear hi))|((with_reducible refine zl (f:=147) rfl ?_);refine goesL_ (some 22) rfl rfl Try.func147 zz78 rfl #[.int .i64 a0] rfl zz27 ?_;(with_reducible refine (z19.calls a0 t102 _ A9.out).mono ?_);rintro e w13 ⟨rfl,hb⟩;refine ⟨_,rfl,?_⟩;have n0_:=z1.mk (z4 zz28 hb);clear HB;have HB:=n0_;clear n0_;(try clear hb);(try clear hb2);(try clear hk);(try clear hi))|((with_reducible refine zl (f:=137) rfl ?_);refine goesL_ (some 28) rfl rfl Try.func137 zz78 rfl #[.int .i64 (wrap64 (a0 - 1)),.int .u64 (Go.bits .and .u64 (ji7) t101)] rfl (by (try simp only [List.map_toArray,List.map_cons,List.map_nil]);first|done|(simp only [hji7];rfl)|rfl|(simp only [List.length_drop,List.length_take];rfl)) ?_;(with_reducible refine (ih k zz80 (wrap64 (a0 - 1)) (Go.bits .and .u64 (ji7) t101) t103 _ A10.out).mono ?_);rintro e w14 ⟨rfl,hb⟩;refine ⟨_,rfl,?_⟩;have n0_:=z1.mk (z4 zz28 hb);clear HB;have HB:=n0_;clear n0_;(try clear hb);(try clear hb2);(try clear hk);(try clear hi)))
 go_ret
 exact ⟨by first|rfl|(simp [zi,zj] <;> rfl)|(simp only [← hji4,← hji6,← hji7,← hji11];first|rfl|(simp [zi,zj] <;> rfl))|(simp [*,zi,zj] <;> rfl),by repeat (first|(with_reducible first|exact HB.out|apply z7|apply z2|apply z6)|exact HB.out)⟩
end Go.Proofs.Ytkhmpaooinpfoaa.P

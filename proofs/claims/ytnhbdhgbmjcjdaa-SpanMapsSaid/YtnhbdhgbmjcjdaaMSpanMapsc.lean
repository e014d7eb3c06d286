/- Own text: merged by wip/tools/pack.py out of what the law SpanMaps reaches. -/
import Derived.Test.YtnhbdhgbmjcjdaaMSpanMapsb
namespace Go.Proofs.Ytnhbdhgbmjcjdaa.P
open Go.RowKit Go.Proofs.YtnhbdhgbmjcjdaaW.PrintWords Go.Proofs.YtnhbdhgbmjcjdaaW.PrintLast Go.Proofs.YtnhbdhgbmjcjdaaW.PrintMore
attribute [local go_sem] z10 z12 z1h z1i zQ zR z11 z13   -- for this text's walks alone
set_option linter.unusedVariables false
set_option linter.unusedSimpArgs false
mutual
def z6.l0 : Nat → List (S35) → Int → Int → Int → Option ((List (S35)))
 | 0,_,_,_,_=>none
 | k + 1,x0,x1,x2,x8=>if x8 < x2 then (z6.l1 k x0 x1 x2 x8 x8) else (some x0)
def z6.l1 : Nat → List (S35) → Int → Int → Int → Int → Option ((List (S35)))
 | 0,_,_,_,_,_=>none
 | k + 1,x0,x1,x2,x8,x9=>if x9 > x1 then (if 0 ≤ x9 then (if x9 < (x0.length : Int) then (if 0 ≤ (wrap64 (x9 - 1)) then (if (wrap64 (x9 - 1)) < (x0.length : Int) then ((z1v.f k ((rd_T35 x0 x9).f0) ((rd_T35 x0 x9).f1) ((rd_T35 x0 (wrap64 (x9 - 1))).f0) ((rd_T35 x0 (wrap64 (x9 - 1))).f1)).bind fun t103=>(if t103 < 0 then (z6.l1 k ((x0.set (x9 : Int).toNat (⟨(rd_T35 x0 (wrap64 (x9 - 1))).f0,(rd_T35 x0 (wrap64 (x9 - 1))).f1⟩ : S35)).set ((wrap64 (x9 - 1)) : Int).toNat (⟨(rd_T35 x0 x9).f0,(rd_T35 x0 x9).f1⟩ : S35)) x1 x2 x8 (wrap64 (x9 - 1))) else (z6.l0 k x0 x1 x2 (wrap64 (x8 + 1))))) else (none)) else (none)) else (none)) else (none)) else (z6.l0 k x0 x1 x2 (wrap64 (x8 + 1)))
end
def z6.f (k : Nat) (l0 : List (S35)) (a1 : Int) (a2 : Int) (a3 : Int) : Option ((List (S35))):=z6.l0 k l0 a1 a2 (wrap64 (a1 + 1))
theorem z6.zY : ∀ k,(∀ y0 y1 y2 y3,LeO (z6.l0 k y0 y1 y2 y3) (z6.l0 (k + 1) y0 y1 y2 y3)) ∧ (∀ y0 y1 y2 y3 y4,LeO (z6.l1 k y0 y1 y2 y3 y4) (z6.l1 (k + 1) y0 y1 y2 y3 y4))
 | 0=>⟨fun _ _ _ _ r h=>by simp [z6.l0] at h,fun _ _ _ _ _ r h=>by simp [z6.l1] at h⟩
 | k + 1=>by
  obtain ⟨ih0,ih1⟩:=z6.zY k
  refine ⟨?_,?_⟩
  · intro y0 y1 y2 y3
    unfold z6.l0
    repeat' first
    | (with_reducible exact ih0 _ _ _ _)
    | (with_reducible exact ih1 _ _ _ _ _)
    | (with_reducible exact z1v.mono _ _ _ _ _)
    | (with_reducible exact LeO.refl _)
    | (with_reducible exact LeO.none _)
    | (with_reducible refine LeO.ite ?_ ?_)
    | (with_reducible refine LeO.bind ?_ (fun _=>?_))
    | exact ih0 _ _ _ _
    | exact ih1 _ _ _ _ _
    | exact z1v.mono _ _ _ _ _
    | exact LeO.none _
    | refine LeO.ite ?_ ?_
    | refine LeO.bind ?_ (fun _=>?_)
  · intro y0 y1 y2 y3 y4
    unfold z6.l1
    repeat' first
    | (with_reducible exact ih0 _ _ _ _)
    | (with_reducible exact ih1 _ _ _ _ _)
    | (with_reducible exact z1v.mono _ _ _ _ _)
    | (with_reducible exact LeO.refl _)
    | (with_reducible exact LeO.none _)
    | (with_reducible refine LeO.ite ?_ ?_)
    | (with_reducible refine LeO.bind ?_ (fun _=>?_))
    | exact ih0 _ _ _ _
    | exact ih1 _ _ _ _ _
    | exact z1v.mono _ _ _ _ _
    | exact LeO.none _
    | refine LeO.ite ?_ ?_
    | refine LeO.bind ?_ (fun _=>?_)
theorem z6.mono : ∀ a0 a1 a2 a3 k,LeO (z6.f k a0 a1 a2 a3) (z6.f (k + 1) a0 a1 a2 a3):=by
 intro a0 a1 a2 a3 k
 obtain ⟨ih0,ih1⟩:=z6.zY k
 unfold z6.f
 repeat' first
  | (with_reducible exact ih0 _ _ _ _)
  | (with_reducible exact ih1 _ _ _ _ _)
  | (with_reducible exact z1v.mono _ _ _ _ _)
  | (with_reducible exact LeO.refl _)
  | (with_reducible exact LeO.none _)
  | (with_reducible refine LeO.ite ?_ ?_)
  | (with_reducible refine LeO.bind ?_ (fun _=>?_))
  | exact ih0 _ _ _ _
  | exact ih1 _ _ _ _ _
  | exact z1v.mono _ _ _ _ _
  | exact LeO.none _
  | refine LeO.ite ?_ ?_
  | refine LeO.bind ?_ (fun _=>?_)
def z6.T4 : Bool × List (List Nat × List Nat):=(true,[([],[]),([],[]),([0,1],[0,1]),([2],[2]),([3],[3]),([3],[3]),([3],[3]),([5,6,3],[3,5,6]),([7,3],[3,7]),([3],[3]),([3],[3]),([10,3],[3,10]),([9,11,3],[3,9,11]),([12,3],[3,12]),([4,8,13,3,3],[3,4,8,13]),([14,3],[3,14]),([3,15],[3,15])])
def z6.B4 : List Nat:=[0,0,3,7,15,15,15,111,239,15,15,1039,3599,7695,16383,32767,65535]
theorem z6.tab4 : rtab .any (opsOf Try.f91 4) = z6.T4:=by kernel_rfl
theorem z6.bits4 : waitsOk z6.T4.2 z6.B4 = true:=by kernel_rfl
def z6.T6 : Bool × List (List Nat × List Nat):=(true,[([],[]),([],[]),([],[]),([],[]),([3],[3]),([],[]),([],[]),([6],[6]),([5,7],[5,7]),([8],[8]),([],[]),([],[]),([10,11],[10,11]),([12],[12]),([0,1,0,1,5,6,7,8,9,13],[0,1]),([14,9,0,1,5,6,7,8,9,13],[9,14]),([2,4,0,1,2,3,4,5,6,7,8,9,10,11,12,13,14,15],[2,4]),([16,13,15,0,1,2,3,4,5,6,7,8,9,10,11,12,13,14,15],[13,16])])
def z6.B6 : List Nat:=[0,0,0,0,8,0,0,64,224,480,0,0,3072,7168,16355,32739,65535,131071]
theorem z6.tab6 : rtab .any (opsOf Try.f91 6) = z6.T6:=by kernel_rfl
theorem z6.bits6 : waitsOk z6.T6.2 z6.B6 = true:=by kernel_rfl
set_option maxHeartbeats 8000000 in
set_option maxRecDepth 100000 in
theorem z6.calls (k : Nat) (P0_ : Nat → Prop) (u9000_ : Value) (l0 : List (S35)) (a1 : Int) (a2 : Int) (a3 : Int) (r : List (S35)) (w0 w : World) (hB : Below w0.heap.size w0 w) (ho0 : Kd.R k35 35 w w0.heap.size P0_ u9000_ l0) (h : z6.f k l0 a1 a2 a3 = some r) :
 Calls Try.prog 91 #[u9000_,.int .i64 a1,.int .i64 a2,.func (.func 82) #[] #[]] w fun e w'=>e = .returned (.tuple #[]) ∧ Kd.R k35 35 w' w0.heap.size (fun k_=>(P0_ k_ ∨ w.heap.size ≤ k_)) u9000_ r ∧ Below w0.heap.size w0 w' ∧ Kept w w' (fun k_=>P0_ k_):=by
 have hu35:=Try.underlying35
 have HO0:=z1.mk (show Kd.R k35 35 w w0.heap.size (fun k_=>(P0_ k_ ∨ w.heap.size ≤ k_)) u9000_ l0 from Kd.z1j ho0 (fun k_ hk=>(.inl hk)))
 have HK:=z1.mk (Kept.refl w (fun k_=>P0_ k_))
 have HW0:=z1.mk hB.size
 have HB:=z1.mk hB
 clear hB
 have H : (z6.l0 k l0 a1 a2 (wrap64 (a1 + 1))) = some r:=h
 clear h
 have H':=z1.mk H
 clear H
 go_enter Try.func91,Try.ntmps91
 go_wp2
 go_loopg [8] k (fun kq v8 w'=>∃ (x0_1 : List (S35)) (x8_1 : Int),v8 = .int .i64 x8_1 ∧ z1 (z6.l0 kq x0_1 a1 a2 x8_1 = some r) ∧ z1 (kq ≤ k) ∧ z1 (Kd.R k35 35 w' w0.heap.size (fun k_=>(P0_ k_ ∨ w.heap.size ≤ k_)) u9000_ x0_1) ∧ z1 (Kept w w' (fun k_=>P0_ k_)) ∧ z1 (Below w0.heap.size w0 w'))
 case atStart=>exact ⟨(l0),(wrap64 (a1 + 1)),zz82,H',⟨Nat.le_refl _⟩,⟨by (with_reducible repeat (first|apply Kd.zL|apply Kd.zM|apply Kd.zS));exact HO0.out⟩,⟨by repeat (first|(with_reducible first|exact HK.out|apply Kept.alloc|apply Kept.drewN|apply Kept.drew)|exact HK.out)⟩,⟨by repeat (first|(with_reducible first|exact HB.out|apply zd|apply z3|apply zc)|exact HB.out)⟩⟩
 case round =>
  clear H'
  (try clear p2)
  obtain ⟨x0_1,x8_1,rfl,HA,HK1,HO_0,HK,HB⟩:=hrel
  cases gk with
  | zero=>exact absurd HA.out (by simp [z6.l0])
  | succ k1 =>
   have H:=HA.out
   clear HA
   simp only [z6.l0] at H
   by_cases c5 : x8_1 < a2
   rotate_left
   · rw [if_neg c5] at H
     have c5b0 : decide (x8_1 < a2) = false:=decide_eq_false c5
     clear c5
     obtain rfl:=Option.some.inj H
     go_wp2
     first|go_end0|((try simp only [Exit.inBlock,Exit.then]);refine bodyPost_ret (results_none rfl _ _ _) rfl ?_)
     exact ⟨by first|rfl|(simp [zi,zj] <;> rfl)|(simp [*,zi,zj] <;> rfl),by (with_reducible repeat (first|apply Kd.zL|apply Kd.zM|apply Kd.zS));exact HO_0.out,by repeat (first|(with_reducible first|exact HB.out|apply zd|apply z3|apply zc)|exact HB.out),by repeat (first|(with_reducible first|exact HK.out|apply Kept.alloc|apply Kept.drewN|apply Kept.drew)|exact HK.out)⟩
   rw [if_pos c5] at H
   have c5b0 : decide (x8_1 < a2) = true:=decide_eq_true c5
   clear c5
   have H':=z1.mk H
   clear H
   go_wp2
   go_loopg [9] k1 (fun kq v9 w'=>∃ (x0_2 : List (S35)) (x9_2 : Int),v9 = .int .i64 x9_2 ∧ z1 (z6.l1 kq x0_2 a1 a2 x8_1 x9_2 = some r) ∧ z1 (kq ≤ k1) ∧ z1 (Kd.R k35 35 w' w0.heap.size (fun k_=>(P0_ k_ ∨ w.heap.size ≤ k_)) u9000_ x0_2) ∧ z1 (Kept w w' (fun k_=>P0_ k_)) ∧ z1 (Below w0.heap.size w0 w'))
   case atStart=>exact ⟨(x0_1),(x8_1),zz82,H',⟨Nat.le_refl _⟩,⟨by (with_reducible repeat (first|apply Kd.zL|apply Kd.zM|apply Kd.zS));exact HO_0.out⟩,⟨by repeat (first|(with_reducible first|exact HK.out|apply Kept.alloc|apply Kept.drewN|apply Kept.drew)|exact HK.out)⟩,⟨by repeat (first|(with_reducible first|exact HB.out|apply zd|apply z3|apply zc)|exact HB.out)⟩⟩
   case round =>
    clear H'
    (try clear p2);(try clear c5);(try clear c5b0);(try clear p2)
    obtain ⟨x0_2,x9_2,rfl,HA,HK2,HO_0,HK,HB⟩:=hrel
    cases gk with
    | zero=>exact absurd HA.out (by simp [z6.l1])
    | succ k2 =>
     have H:=HA.out
     clear HA
     simp only [z6.l1] at H
     by_cases c6 : x9_2 > a1
     rotate_left
     · rw [if_neg c6] at H
       have c6b0 : decide (a1 < x9_2) = false:=decide_eq_false c6
       clear c6
       have H':=z1.mk H
       clear H
       try go_wp2
       have n0_:=z1.mk (Kd.zS HO_0.out)
       have n1_:=z1.mk (Kept.drew HK.out)
       have n2_:=z1.mk (zc HB.out)
       clear HO_0
       clear HK
       clear HB
       have HO_0:=n0_
       have HK:=n1_
       have HB:=n2_
       clear n0_ n1_ n2_
       refine start_ (n:=17) (S:=fun w'=>True) (ds:=[]) #[false,false,false,false,false,false,false,false,false,false,false,false,false,false,false,false,false] zz84 rfl rfl trivial (fun hHeld=>?_);refine z23 z6.tab4 z6.bits4 (fun HT_ HW_=>?_)
       generalize wr.drew = w25 at HO_0 HK HB hHeld ⊢
       refine pure_ (i:=0) (N:=some 18) (v:=?_) (a':=?_) #[true,false,false,false,false,false,false,false,false,false,false,false,false,false,false,false,false] rfl rfl (zW HT_.out zz84) (fun _ _ _ h=>h) (Or.inl ⟨by rfl,?_⟩) ?_ ?_
       rotate_left
       · intro w'
         go_simp
         with_reducible rfl
       rotate_left
       · simp only [Act.put,List.setIfInBounds_toArray,List.set_cons_zero,List.set_cons_succ,zH,zI]
         rfl
       refine pure_ (i:=1) (N:=some 19) (v:=?_) (a':=?_) #[true,true,false,false,false,false,false,false,false,false,false,false,false,false,false,false,false] rfl rfl (zW HT_.out zz84) (fun _ _ _ h=>h) (Or.inl ⟨by rfl,?_⟩) ?_ ?_
       rotate_left
       · intro w'
         go_simp
         with_reducible rfl
       rotate_left
       · simp only [Act.put,List.setIfInBounds_toArray,List.set_cons_zero,List.set_cons_succ,zH,zI]
         rfl
       refine pure_ (i:=2) (N:=some 20) (v:=?_) (a':=?_) #[true,true,true,false,false,false,false,false,false,false,false,false,false,false,false,false,false] rfl rfl (zW HT_.out zz84) (fun _ _ _ h=>h) (Or.inl ⟨by rfl,?_⟩) ?_ ?_
       rotate_left
       · intro w'
         go_simp
         with_reducible rfl
       rotate_left
       · simp only [Act.put,List.setIfInBounds_toArray,List.set_cons_zero,List.set_cons_succ,zH,zI]
         rfl
       refine pure_ (i:=3) (N:=some 21) (v:=?_) (a':=?_) #[true,true,true,true,false,false,false,false,false,false,false,false,false,false,false,false,false] rfl rfl (zW HT_.out zz84) (fun _ _ _ h=>h) (Or.inl ⟨by rfl,?_⟩) ?_ ?_
       rotate_left
       · intro w'
         go_simp
         with_reducible rfl
       rotate_left
       · simp only [Act.put,List.setIfInBounds_toArray,List.set_cons_zero,List.set_cons_succ,zH,zI]
         rfl
       refine pure_ (i:=4) (N:=some 22) (v:=undef) (a':=?_) #[true,true,true,true,true,false,false,false,false,false,false,false,false,false,false,false,false] rfl rfl (zW HT_.out zz84) (fun _ _ _ h=>h) (Or.inr ⟨by rfl,rfl⟩) ?_ ?_
       rotate_left
       · simp only [Act.put,List.setIfInBounds_toArray,List.set_cons_zero,List.set_cons_succ,zH,zI]
         rfl
       refine pure_ (i:=5) (N:=some 23) (v:=undef) (a':=?_) #[true,true,true,true,true,true,false,false,false,false,false,false,false,false,false,false,false] rfl rfl (zW HT_.out zz84) (fun _ _ _ h=>h) (Or.inr ⟨by rfl,rfl⟩) ?_ ?_
       rotate_left
       · simp only [Act.put,List.setIfInBounds_toArray,List.set_cons_zero,List.set_cons_succ,zH,zI]
         rfl
       refine pure_ (i:=6) (N:=some 24) (v:=undef) (a':=?_) #[true,true,true,true,true,true,true,false,false,false,false,false,false,false,false,false,false] rfl rfl (zW HT_.out zz84) (fun _ _ _ h=>h) (Or.inr ⟨by rfl,rfl⟩) ?_ ?_
       rotate_left
       · simp only [Act.put,List.setIfInBounds_toArray,List.set_cons_zero,List.set_cons_succ,zH,zI]
         rfl
       refine pure_ (i:=7) (N:=some 25) (v:=undef) (a':=?_) #[true,true,true,true,true,true,true,true,false,false,false,false,false,false,false,false,false] rfl rfl (zW HT_.out zz84) (fun _ _ _ h=>h) (Or.inr ⟨by rfl,rfl⟩) ?_ ?_
       rotate_left
       · simp only [Act.put,List.setIfInBounds_toArray,List.set_cons_zero,List.set_cons_succ,zH,zI]
         rfl
       refine pure_ (i:=8) (N:=some 26) (v:=undef) (a':=?_) #[true,true,true,true,true,true,true,true,true,false,false,false,false,false,false,false,false] rfl rfl (zW HT_.out zz84) (fun _ _ _ h=>h) (Or.inr ⟨by rfl,rfl⟩) ?_ ?_
       rotate_left
       · simp only [Act.put,List.setIfInBounds_toArray,List.set_cons_zero,List.set_cons_succ,zH,zI]
         rfl
       refine pure_ (i:=9) (N:=some 27) (v:=undef) (a':=?_) #[true,true,true,true,true,true,true,true,true,true,false,false,false,false,false,false,false] rfl rfl (zW HT_.out zz84) (fun _ _ _ h=>h) (Or.inr ⟨by rfl,rfl⟩) ?_ ?_
       rotate_left
       · simp only [Act.put,List.setIfInBounds_toArray,List.set_cons_zero,List.set_cons_succ,zH,zI]
         rfl
       refine pure_ (i:=10) (N:=some 28) (v:=undef) (a':=?_) #[true,true,true,true,true,true,true,true,true,true,true,false,false,false,false,false,false] rfl rfl (zW HT_.out zz84) (fun _ _ _ h=>h) (Or.inr ⟨by rfl,rfl⟩) ?_ ?_
       rotate_left
       · simp only [Act.put,List.setIfInBounds_toArray,List.set_cons_zero,List.set_cons_succ,zH,zI]
         rfl
       refine pure_ (i:=11) (N:=some 29) (v:=undef) (a':=?_) #[true,true,true,true,true,true,true,true,true,true,true,true,false,false,false,false,false] rfl rfl (zW HT_.out zz84) (fun _ _ _ h=>h) (Or.inr ⟨by rfl,rfl⟩) ?_ ?_
       rotate_left
       · simp only [Act.put,List.setIfInBounds_toArray,List.set_cons_zero,List.set_cons_succ,zH,zI]
         rfl
       refine pure_ (i:=12) (N:=some 30) (v:=undef) (a':=?_) #[true,true,true,true,true,true,true,true,true,true,true,true,true,false,false,false,false] rfl rfl (zW HT_.out zz84) (fun _ _ _ h=>h) (Or.inr ⟨by rfl,rfl⟩) ?_ ?_
       rotate_left
       · simp only [Act.put,List.setIfInBounds_toArray,List.set_cons_zero,List.set_cons_succ,zH,zI]
         rfl
       refine pure_ (i:=13) (N:=some 31) (v:=undef) (a':=?_) #[true,true,true,true,true,true,true,true,true,true,true,true,true,true,false,false,false] rfl rfl (zW HT_.out zz84) (fun _ _ _ h=>h) (Or.inr ⟨by rfl,rfl⟩) ?_ ?_
       rotate_left
       · simp only [Act.put,List.setIfInBounds_toArray,List.set_cons_zero,List.set_cons_succ,zH,zI]
         rfl
       refine pure_ (i:=14) (N:=some 32) (v:=undef) (a':=?_) #[true,true,true,true,true,true,true,true,true,true,true,true,true,true,true,false,false] rfl rfl (zW HT_.out zz84) (fun _ _ _ h=>h) (Or.inr ⟨by rfl,rfl⟩) ?_ ?_
       rotate_left
       · simp only [Act.put,List.setIfInBounds_toArray,List.set_cons_zero,List.set_cons_succ,zH,zI]
         rfl
       refine pure_ (i:=15) (N:=some 33) (v:=undef) (a':=?_) #[true,true,true,true,true,true,true,true,true,true,true,true,true,true,true,true,false] rfl rfl (zW HT_.out zz84) (fun _ _ _ h=>h) (Or.inr ⟨by rfl,rfl⟩) ?_ ?_
       rotate_left
       · simp only [Act.put,List.setIfInBounds_toArray,List.set_cons_zero,List.set_cons_succ,zH,zI]
         rfl
       refine pure_ (i:=16) (N:=some 34) (v:=?_) (a':=?_) #[true,true,true,true,true,true,true,true,true,true,true,true,true,true,true,true,true] rfl rfl (zW HT_.out zz84) (fun _ _ _ h=>h) (Or.inl ⟨by rfl,?_⟩) ?_ ?_
       rotate_left
       · intro w'
         go_simp
         with_reducible rfl
       rotate_left
       · simp only [Act.put,List.setIfInBounds_toArray,List.set_cons_zero,List.set_cons_succ,zH,zI]
         rfl
       refine done_ (z2A HT_.out zz84) ?_
       try go_wp2
       go_roundg k2
       case measure=>have:=HK1.out;have:=HK2.out;omega
       case rel=>exact ⟨(x0_2),(wrap64 (x8_1 + 1)),zz82,H',⟨by have:=HK1.out;have:=HK2.out;omega⟩,⟨by (with_reducible repeat (first|apply Kd.zL|apply Kd.zM|apply Kd.zS));exact HO_0.out⟩,⟨by repeat (first|(with_reducible first|exact HK.out|apply Kept.alloc|apply Kept.drewN|apply Kept.drew)|exact HK.out)⟩,⟨by repeat (first|(with_reducible first|exact HB.out|apply zd|apply z3|apply zc)|exact HB.out)⟩⟩
     rw [if_pos c6] at H
     have c6b0 : decide (a1 < x9_2) = true:=decide_eq_true c6
     clear c6
     by_cases c7 : 0 ≤ x9_2
     rotate_left
     · rw [if_neg c7] at H
       exact absurd H zz87
     rw [if_pos c7] at H
     have c7b0 : decide (0 ≤ x9_2) = true:=decide_eq_true c7
     clear c7
     by_cases c8 : x9_2 < (x0_2.length : Int)
     rotate_left
     · rw [if_neg c8] at H
       exact absurd H zz87
     rw [if_pos c8] at H
     have c8b0 : decide (x9_2 < (x0_2.length : Int)) = true:=decide_eq_true c8
     clear c8
     obtain ⟨ji9,hji9⟩ : ∃ j_ : Int,(wrap64 (x9_2 - 1)) = j_:=⟨_,rfl⟩
     replace H : (if 0 ≤ (ji9) then (if (ji9) < (x0_2.length : Int) then ((z1v.f k2 ((rd_T35 x0_2 x9_2).f0) ((rd_T35 x0_2 x9_2).f1) ((rd_T35 x0_2 (ji9)).f0) ((rd_T35 x0_2 (ji9)).f1)).bind fun t103=>(if t103 < 0 then (z6.l1 k2 ((x0_2.set (x9_2 : Int).toNat (⟨(rd_T35 x0_2 (ji9)).f0,(rd_T35 x0_2 (ji9)).f1⟩ : S35)).set ((ji9) : Int).toNat (⟨(rd_T35 x0_2 x9_2).f0,(rd_T35 x0_2 x9_2).f1⟩ : S35)) a1 a2 x8_1 ji9) else (z6.l0 k2 x0_2 a1 a2 (wrap64 (x8_1 + 1))))) else (none)) else (none)) = some r:=by first|(rw [hji9] at H;exact H)|(simp only [hji9] at H ⊢;exact H)
     have hji9w : (IntKind.i64.wrap (x9_2 - 1)) = ji9:=(zH _).trans hji9
     by_cases c10 : 0 ≤ (ji9)
     rotate_left
     · rw [if_neg c10] at H
       exact absurd H zz87
     rw [if_pos c10] at H
     have c10b0 : decide (0 ≤ (ji9)) = true:=decide_eq_true c10
     clear c10
     by_cases c11 : (ji9) < (x0_2.length : Int)
     rotate_left
     · rw [if_neg c11] at H
       exact absurd H zz87
     rw [if_pos c11] at H
     have c11b0 : decide ((ji9) < (x0_2.length : Int)) = true:=decide_eq_true c11
     clear c11
     replace H:=Option.bind_eq_some_iff.mp H
     obtain ⟨t103,A120,H⟩:=H
     replace H : (if t103 < 0 then (z6.l1 k2 ((x0_2.set (x9_2 : Int).toNat (⟨(rd_T35 x0_2 (ji9)).f0,(rd_T35 x0_2 (ji9)).f1⟩ : S35)).set ((ji9) : Int).toNat (⟨(rd_T35 x0_2 x9_2).f0,(rd_T35 x0_2 x9_2).f1⟩ : S35)) a1 a2 x8_1 ji9) else (z6.l0 k2 x0_2 a1 a2 (wrap64 (x8_1 + 1)))) = some r:=H
     have A12:=z1.mk A120
     clear A120
     by_cases c13 : t103 < 0
     rotate_left
     · rw [if_neg c13] at H
       have c13b0 : decide (t103 < 0) = false:=decide_eq_false c13
       clear c13
       have H':=z1.mk H
       clear H
       try go_wp2
       have n0_:=z1.mk (Kd.zS HO_0.out)
       have n1_:=z1.mk (Kept.drew HK.out)
       have n2_:=z1.mk (zc HB.out)
       clear HO_0
       clear HK
       clear HB
       have HO_0:=n0_
       have HK:=n1_
       have HB:=n2_
       clear n0_ n1_ n2_
       obtain ⟨Ao23,co23,eo23⟩:=Kd.z1e HO_0.out
       (first|subst eo23|(injection eo23 with f1_ f2_ f3_;have f4_:=f1_.symm;have f5_:=f3_.symm;clear f1_ f2_ f3_;subst f4_;subst f5_))
       have p101 : 0 ≤ (x9_2 : Int):=of_decide_eq_true zz81
       have q101 : x9_2 < (x0_2.length : Int):=of_decide_eq_true zz81
       obtain ⟨ad101,e101,hx101_0,hx101_1⟩:=z1Q (Kd.zA HO_0.out).2.2 x9_2 p101 q101
       cases e101
       replace p101:=eq_true p101
       replace q101:=eq_true q101
       have p102 : 0 ≤ ((ji9) : Int):=of_decide_eq_true zz81
       have q102 : (ji9) < (x0_2.length : Int):=of_decide_eq_true zz81
       obtain ⟨ad102,e102,hx102_0,hx102_1⟩:=z1Q (Kd.zA HO_0.out).2.2 (ji9) p102 q102
       obtain rfl : ad101 = ad102:=(by injection e102)
       replace p102:=eq_true p102
       replace q102:=eq_true q102
       refine start_ (n:=17) (S:=fun w'=>w'.cell? (ad101.add ((x9_2).toNat * 2)) = some (.int .u64 ((rd_T35 x0_2 x9_2).f0)) ∧ w'.cell? ⟨(ad101.add ((x9_2).toNat * 2)).block,(ad101.add ((x9_2).toNat * 2)).off + 1,none⟩ = some (.int .u64 ((rd_T35 x0_2 x9_2).f1)) ∧ w'.cell? (ad101.add (((ji9)).toNat * 2)) = some (.int .u64 ((rd_T35 x0_2 (ji9)).f0)) ∧ w'.cell? ⟨(ad101.add (((ji9)).toNat * 2)).block,(ad101.add (((ji9)).toNat * 2)).off + 1,none⟩ = some (.int .u64 ((rd_T35 x0_2 (ji9)).f1))) (ds:=[]) #[false,false,false,false,false,false,false,false,false,false,false,false,false,false,false,false,false] zz84 rfl rfl ⟨hx101_0,hx101_1,hx102_0,hx102_1⟩ (fun hHeld=>?_);refine z23 z6.tab4 z6.bits4 (fun HT_ HW_=>?_)
       generalize wr.drew = w22 at HO_0 HK HB hx101_0 hx101_1 hx102_0 hx102_1 hHeld ⊢
       refine pure_ (i:=0) (N:=some 18) (v:=?_) (a':=?_) #[true,false,false,false,false,false,false,false,false,false,false,false,false,false,false,false,false] rfl rfl (zW HT_.out zz84) (fun _ _ _ h=>h) (Or.inl ⟨by rfl,?_⟩) ?_ ?_
       rotate_left
       · intro w'
         go_simp
         with_reducible rfl
       rotate_left
       · simp only [Act.put,List.setIfInBounds_toArray,List.set_cons_zero,List.set_cons_succ,zH,zI]
         rfl
       refine pure_ (i:=1) (N:=some 19) (v:=?_) (a':=?_) #[true,true,false,false,false,false,false,false,false,false,false,false,false,false,false,false,false] rfl rfl (zW HT_.out zz84) (fun _ _ _ h=>h) (Or.inl ⟨by rfl,?_⟩) ?_ ?_
       rotate_left
       · intro w'
         go_simp
         with_reducible rfl
       rotate_left
       · simp only [Act.put,List.setIfInBounds_toArray,List.set_cons_zero,List.set_cons_succ,zH,zI]
         rfl
       refine pure_ (i:=2) (N:=some 20) (v:=?_) (a':=?_) #[true,true,true,false,false,false,false,false,false,false,false,false,false,false,false,false,false] rfl rfl (zW HT_.out zz84) (fun _ _ _ h=>h) (Or.inl ⟨by rfl,?_⟩) ?_ ?_
       rotate_left
       · intro w'
         go_simp
         with_reducible rfl
       rotate_left
       · simp only [Act.put,List.setIfInBounds_toArray,List.set_cons_zero,List.set_cons_succ,zH,zI]
         rfl
       refine pure_ (i:=3) (N:=some 21) (v:=?_) (a':=?_) #[true,true,true,true,false,false,false,false,false,false,false,false,false,false,false,false,false] rfl rfl (zW HT_.out zz84) (fun _ _ _ h=>h) (Or.inl ⟨by rfl,?_⟩) ?_ ?_
       rotate_left
       · intro w'
         go_simp
         with_reducible rfl
       rotate_left
       · simp only [Act.put,List.setIfInBounds_toArray,List.set_cons_zero,List.set_cons_succ,zH,zI]
         rfl
       refine pure_ (i:=4) (N:=some 22) (v:=?_) (a':=?_) #[true,true,true,true,true,false,false,false,false,false,false,false,false,false,false,false,false] rfl rfl (zW HT_.out zz84) (fun _ _ _ h=>h) (Or.inl ⟨by rfl,?_⟩) ?_ ?_
       rotate_left
       · intro w'
         go_simp
         with_reducible rfl
       rotate_left
       · simp only [Act.put,List.setIfInBounds_toArray,List.set_cons_zero,List.set_cons_succ,zH,zI]
         rfl
       refine pure_ (i:=5) (N:=some 23) (v:=?_) (a':=?_) #[true,true,true,true,true,true,false,false,false,false,false,false,false,false,false,false,false] rfl rfl (zW HT_.out zz84) (fun _ _ _ h=>h) (Or.inl ⟨by rfl,?_⟩) ?_ ?_
       rotate_left
       · intro w'
         go_simp
         with_reducible rfl
       rotate_left
       · simp only [Act.put,List.setIfInBounds_toArray,List.set_cons_zero,List.set_cons_succ,zH,zI]
         rfl
       refine pure_ (i:=6) (N:=some 24) (v:=?_) (a':=?_) #[true,true,true,true,true,true,true,false,false,false,false,false,false,false,false,false,false] rfl rfl (zW HT_.out zz84) (fun _ _ _ h=>h) (Or.inl ⟨by rfl,?_⟩) ?_ ?_
       rotate_left
       · intro w'
         go_simp
         with_reducible rfl
       rotate_left
       · simp only [Act.put,List.setIfInBounds_toArray,List.set_cons_zero,List.set_cons_succ,zH,zI]
         rfl
       refine pure_ (i:=7) (N:=some 25) (v:=?_) (a':=?_) #[true,true,true,true,true,true,true,true,false,false,false,false,false,false,false,false,false] rfl rfl (zW HT_.out zz84) (fun _ _ _ h=>h) (Or.inl ⟨by rfl,?_⟩) ?_ ?_
       rotate_left
       · intro w'
         go_simp
         with_reducible rfl
       rotate_left
       · simp only [Act.put,List.setIfInBounds_toArray,List.set_cons_zero,List.set_cons_succ,zH,zI]
         rfl
       refine pure_ (i:=9) (N:=some 27) (v:=?_) (a':=?_) #[true,true,true,true,true,true,true,true,false,true,false,false,false,false,false,false,false] rfl rfl (zW HT_.out zz84) (fun _ _ _ h=>h) (Or.inl ⟨by rfl,?_⟩) ?_ ?_
       rotate_left
       · intro w'
         go_simp
         with_reducible rfl
       rotate_left
       · simp only [Act.put,List.setIfInBounds_toArray,List.set_cons_zero,List.set_cons_succ,zH,zI]
         rfl
       refine pure_ (i:=10) (N:=some 28) (v:=?_) (a':=?_) #[true,true,true,true,true,true,true,true,false,true,true,false,false,false,false,false,false] rfl rfl (zW HT_.out zz84) (fun _ _ _ h=>h) (Or.inl ⟨by rfl,?_⟩) ?_ ?_
       rotate_left
       · intro w'
         go_simp
         with_reducible rfl
       rotate_left
       · simp only [Act.put,List.setIfInBounds_toArray,List.set_cons_zero,List.set_cons_succ,zH,zI]
         rfl
       refine pure_ (i:=11) (N:=some 29) (v:=?_) (a':=?_) #[true,true,true,true,true,true,true,true,false,true,true,true,false,false,false,false,false] rfl rfl (zW HT_.out zz84) (fun _ _ _ h=>h) (Or.inl ⟨by rfl,?_⟩) ?_ ?_
       rotate_left
       · intro w'
         go_simp
         with_reducible rfl
       rotate_left
       · simp only [Act.put,List.setIfInBounds_toArray,List.set_cons_zero,List.set_cons_succ,zH,zI]
         rfl
       refine pure_ (i:=12) (N:=some 30) (v:=?_) (a':=?_) #[true,true,true,true,true,true,true,true,false,true,true,true,true,false,false,false,false] rfl rfl (zW HT_.out zz84) (fun _ _ _ h=>h) (Or.inl ⟨by rfl,?_⟩) ?_ ?_
       rotate_left
       · intro w'
         go_simp
         with_reducible rfl
       rotate_left
       · simp only [Act.put,List.setIfInBounds_toArray,List.set_cons_zero,List.set_cons_succ,zH,zI]
         rfl
       refine take_ (i:=8) (N:=some 26) (v:=?_) (a':=?_) #[true,true,true,true,true,true,true,true,true,true,true,true,true,false,false,false,false] rfl rfl (z1N HT_.out HW_.out zz84) (fun _ _ _ h=>h) (Or.inl ⟨by rfl,?_⟩) hHeld ?_ ?_
       rotate_left
       · rintro w' ⟨s0,s1,s2,s3⟩
         go_simp
         with_reducible rfl
       rotate_left
       · simp only [Act.put,List.setIfInBounds_toArray,List.set_cons_zero,List.set_cons_succ,zH,zI]
         rfl
       refine take_ (i:=13) (N:=some 31) (v:=?_) (a':=?_) #[true,true,true,true,true,true,true,true,true,true,true,true,true,true,false,false,false] rfl rfl (z1N HT_.out HW_.out zz84) (fun _ _ _ h=>h) (Or.inl ⟨by rfl,?_⟩) hHeld ?_ ?_
       rotate_left
       · rintro w' ⟨s0,s1,s2,s3⟩
         go_simp
         with_reducible rfl
       rotate_left
       · simp only [Act.put,List.setIfInBounds_toArray,List.set_cons_zero,List.set_cons_succ,zH,zI]
         rfl
       refine one_ (i:=14) (N:=some 32) #[true,true,true,true,true,true,true,true,true,true,true,true,true,true,true,false,false] rfl rfl (z21 HT_.out zz84) zz85 (fun K hK=>?_)
       refine goesV_ Try.func82 zz84 rfl #[.agg #[.int .u64 ((rd_T35 x0_2 x9_2).f0),.int .u64 ((rd_T35 x0_2 x9_2).f1)],.agg #[.int .u64 ((rd_T35 x0_2 (ji9)).f0),.int .u64 ((rd_T35 x0_2 (ji9)).f1)]] zz88 rfl rfl zz40 ?_
       with_reducible refine (z1v.calls k2 ((rd_T35 x0_2 x9_2).f0) ((rd_T35 x0_2 x9_2).f1) ((rd_T35 x0_2 (ji9)).f0) ((rd_T35 x0_2 (ji9)).f1) t103 _ A12.out).mono ?_
       rintro e w24 ⟨rfl,hb⟩
       have HS0_:=(hb.cell (World.block_lt_of_cell? _ _ (hHeld.1))).trans (hHeld.1)
       have HS1_:=(hb.cell (World.block_lt_of_cell? _ _ (hHeld.2.1))).trans (hHeld.2.1)
       have HS2_:=(hb.cell (World.block_lt_of_cell? _ _ (hHeld.2.2.1))).trans (hHeld.2.2.1)
       have HS3_:=(hb.cell (World.block_lt_of_cell? _ _ (hHeld.2.2.2))).trans (hHeld.2.2.2)
       refine ⟨_,rfl,?_⟩
       have n0_:=z1.mk (Kd.zs zz75 hb)
       have n1_:=z1.mk (Kept.below (S:=(fun k_=>P0_ k_)) zz48 hb)
       have n2_:=z1.mk (ze zz47 hb)
       clear HO_0
       clear HK
       clear HB
       have HO_0:=n0_
       have HK:=n1_
       have HB:=n2_
       clear n0_ n1_ n2_
       (try clear hb)
       (try clear hb2)
       (try clear hk)
       (try clear hi)
       refine hK.out _ _ ⟨HS0_,HS1_,HS2_,HS3_⟩ (fun hHeld=>?_)
       clear hK K
       refine norm_ (a':=?_) ?_ ?_
       rotate_left
       · show Act.put _ (some 32) _ = _
         simp only [Act.put,List.setIfInBounds_toArray,List.set_cons_zero,List.set_cons_succ,zH,zI]
         rfl
       refine pure_ (i:=15) (N:=some 33) (v:=?_) (a':=?_) #[true,true,true,true,true,true,true,true,true,true,true,true,true,true,true,true,false] rfl rfl (zW HT_.out zz84) (fun _ _ _ h=>h) (Or.inl ⟨by rfl,?_⟩) ?_ ?_
       rotate_left
       · intro w'
         go_simp
         with_reducible rfl
       rotate_left
       · simp only [Act.put,List.setIfInBounds_toArray,List.set_cons_zero,List.set_cons_succ,zH,zI]
         rfl
       refine pure_ (i:=16) (N:=some 34) (v:=?_) (a':=?_) #[true,true,true,true,true,true,true,true,true,true,true,true,true,true,true,true,true] rfl rfl (zW HT_.out zz84) (fun _ _ _ h=>h) (Or.inl ⟨by rfl,?_⟩) ?_ ?_
       rotate_left
       · intro w'
         go_simp
         with_reducible rfl
       rotate_left
       · simp only [Act.put,List.setIfInBounds_toArray,List.set_cons_zero,List.set_cons_succ,zH,zI]
         rfl
       refine done_ (z2A HT_.out zz84) ?_
       try go_wp2
       go_roundg k2
       case measure=>have:=HK1.out;have:=HK2.out;omega
       case rel=>exact ⟨(x0_2),(wrap64 (x8_1 + 1)),zz82,H',⟨by have:=HK1.out;have:=HK2.out;omega⟩,⟨by (with_reducible repeat (first|apply Kd.zL|apply Kd.zM|apply Kd.zS));exact HO_0.out⟩,⟨by repeat (first|(with_reducible first|exact HK.out|apply Kept.alloc|apply Kept.drewN|apply Kept.drew)|exact HK.out)⟩,⟨by repeat (first|(with_reducible first|exact HB.out|apply zd|apply z3|apply zc)|exact HB.out)⟩⟩
     rw [if_pos c13] at H
     have c13b0 : decide (t103 < 0) = true:=decide_eq_true c13
     clear c13
     obtain ⟨y106,hy106⟩ : ∃ y_ : List (S35),y_ = (x0_2.set (x9_2 : Int).toNat (⟨(rd_T35 x0_2 (ji9)).f0,(rd_T35 x0_2 (ji9)).f1⟩ : S35)):=⟨_,rfl⟩
     replace H : (z6.l1 k2 (y106.set ((ji9) : Int).toNat (⟨(rd_T35 x0_2 x9_2).f0,(rd_T35 x0_2 x9_2).f1⟩ : S35)) a1 a2 x8_1 ji9) = some r:=by first|(rw [hy106];with_reducible exact H)|(have H2_:=(Option.bind_some _ _).symm.trans H;rw [hy106];with_reducible exact H2_)|(have H2_:=(Option.bind_some _ _).symm.trans H;with_reducible exact H2_)|with_reducible exact H|(rw [hy106];exact H)|exact H
     have Ny106:=z1.mk hy106
     clear hy106
     obtain ⟨y107,hy107⟩ : ∃ y_ : List (S35),y_ = (y106.set ((ji9) : Int).toNat (⟨(rd_T35 x0_2 x9_2).f0,(rd_T35 x0_2 x9_2).f1⟩ : S35)):=⟨_,rfl⟩
     replace H : (z6.l1 k2 y107 a1 a2 x8_1 ji9) = some r:=by first|(rw [hy107];with_reducible exact H)|(have H2_:=(Option.bind_some _ _).symm.trans H;rw [hy107];with_reducible exact H2_)|(have H2_:=(Option.bind_some _ _).symm.trans H;with_reducible exact H2_)|with_reducible exact H|(rw [hy107];exact H)|exact H
     have Ny107:=z1.mk hy107
     clear hy107
     have H':=z1.mk H
     clear H
     try go_wp2
     have n0_:=z1.mk (Kd.zS HO_0.out)
     have n1_:=z1.mk (Kept.drew HK.out)
     have n2_:=z1.mk (zc HB.out)
     clear HO_0
     clear HK
     clear HB
     have HO_0:=n0_
     have HK:=n1_
     have HB:=n2_
     clear n0_ n1_ n2_
     obtain ⟨Ao17,co17,eo17⟩:=Kd.z1e HO_0.out
     (first|subst eo17|(injection eo17 with f1_ f2_ f3_;have f4_:=f1_.symm;have f5_:=f3_.symm;clear f1_ f2_ f3_;subst f4_;subst f5_))
     have p101 : 0 ≤ (x9_2 : Int):=of_decide_eq_true zz81
     have q101 : x9_2 < (x0_2.length : Int):=of_decide_eq_true zz81
     obtain ⟨ad101,e101,hx101_0,hx101_1⟩:=z1Q (Kd.zA HO_0.out).2.2 x9_2 p101 q101
     cases e101
     replace p101:=eq_true p101
     replace q101:=eq_true q101
     have p102 : 0 ≤ ((ji9) : Int):=of_decide_eq_true zz81
     have q102 : (ji9) < (x0_2.length : Int):=of_decide_eq_true zz81
     obtain ⟨ad102,e102,hx102_0,hx102_1⟩:=z1Q (Kd.zA HO_0.out).2.2 (ji9) p102 q102
     obtain rfl : ad101 = ad102:=(by injection e102)
     replace p102:=eq_true p102
     replace q102:=eq_true q102
     refine start_ (n:=17) (S:=fun w'=>w'.cell? (ad101.add ((x9_2).toNat * 2)) = some (.int .u64 ((rd_T35 x0_2 x9_2).f0)) ∧ w'.cell? ⟨(ad101.add ((x9_2).toNat * 2)).block,(ad101.add ((x9_2).toNat * 2)).off + 1,none⟩ = some (.int .u64 ((rd_T35 x0_2 x9_2).f1)) ∧ w'.cell? (ad101.add (((ji9)).toNat * 2)) = some (.int .u64 ((rd_T35 x0_2 (ji9)).f0)) ∧ w'.cell? ⟨(ad101.add (((ji9)).toNat * 2)).block,(ad101.add (((ji9)).toNat * 2)).off + 1,none⟩ = some (.int .u64 ((rd_T35 x0_2 (ji9)).f1))) (ds:=[]) #[false,false,false,false,false,false,false,false,false,false,false,false,false,false,false,false,false] zz84 rfl rfl ⟨hx101_0,hx101_1,hx102_0,hx102_1⟩ (fun hHeld=>?_);refine z23 z6.tab4 z6.bits4 (fun HT_ HW_=>?_)
     generalize wr.drew = w16 at HO_0 HK HB hx101_0 hx101_1 hx102_0 hx102_1 hHeld ⊢
     refine pure_ (i:=0) (N:=some 18) (v:=?_) (a':=?_) #[true,false,false,false,false,false,false,false,false,false,false,false,false,false,false,false,false] rfl rfl (zW HT_.out zz84) (fun _ _ _ h=>h) (Or.inl ⟨by rfl,?_⟩) ?_ ?_
     rotate_left
     · intro w'
       go_simp
       with_reducible rfl
     rotate_left
     · simp only [Act.put,List.setIfInBounds_toArray,List.set_cons_zero,List.set_cons_succ,zH,zI]
       rfl
     refine pure_ (i:=1) (N:=some 19) (v:=?_) (a':=?_) #[true,true,false,false,false,false,false,false,false,false,false,false,false,false,false,false,false] rfl rfl (zW HT_.out zz84) (fun _ _ _ h=>h) (Or.inl ⟨by rfl,?_⟩) ?_ ?_
     rotate_left
     · intro w'
       go_simp
       with_reducible rfl
     rotate_left
     · simp only [Act.put,List.setIfInBounds_toArray,List.set_cons_zero,List.set_cons_succ,zH,zI]
       rfl
     refine pure_ (i:=2) (N:=some 20) (v:=?_) (a':=?_) #[true,true,true,false,false,false,false,false,false,false,false,false,false,false,false,false,false] rfl rfl (zW HT_.out zz84) (fun _ _ _ h=>h) (Or.inl ⟨by rfl,?_⟩) ?_ ?_
     rotate_left
     · intro w'
       go_simp
       with_reducible rfl
     rotate_left
     · simp only [Act.put,List.setIfInBounds_toArray,List.set_cons_zero,List.set_cons_succ,zH,zI]
       rfl
     refine pure_ (i:=3) (N:=some 21) (v:=?_) (a':=?_) #[true,true,true,true,false,false,false,false,false,false,false,false,false,false,false,false,false] rfl rfl (zW HT_.out zz84) (fun _ _ _ h=>h) (Or.inl ⟨by rfl,?_⟩) ?_ ?_
     rotate_left
     · intro w'
       go_simp
       with_reducible rfl
     rotate_left
     · simp only [Act.put,List.setIfInBounds_toArray,List.set_cons_zero,List.set_cons_succ,zH,zI]
       rfl
     refine pure_ (i:=4) (N:=some 22) (v:=?_) (a':=?_) #[true,true,true,true,true,false,false,false,false,false,false,false,false,false,false,false,false] rfl rfl (zW HT_.out zz84) (fun _ _ _ h=>h) (Or.inl ⟨by rfl,?_⟩) ?_ ?_
     rotate_left
     · intro w'
       go_simp
       with_reducible rfl
     rotate_left
     · simp only [Act.put,List.setIfInBounds_toArray,List.set_cons_zero,List.set_cons_succ,zH,zI]
       rfl
     refine pure_ (i:=5) (N:=some 23) (v:=?_) (a':=?_) #[true,true,true,true,true,true,false,false,false,false,false,false,false,false,false,false,false] rfl rfl (zW HT_.out zz84) (fun _ _ _ h=>h) (Or.inl ⟨by rfl,?_⟩) ?_ ?_
     rotate_left
     · intro w'
       go_simp
       with_reducible rfl
     rotate_left
     · simp only [Act.put,List.setIfInBounds_toArray,List.set_cons_zero,List.set_cons_succ,zH,zI]
       rfl
     refine pure_ (i:=6) (N:=some 24) (v:=?_) (a':=?_) #[true,true,true,true,true,true,true,false,false,false,false,false,false,false,false,false,false] rfl rfl (zW HT_.out zz84) (fun _ _ _ h=>h) (Or.inl ⟨by rfl,?_⟩) ?_ ?_
     rotate_left
     · intro w'
       go_simp
       with_reducible rfl
     rotate_left
     · simp only [Act.put,List.setIfInBounds_toArray,List.set_cons_zero,List.set_cons_succ,zH,zI]
       rfl
     refine pure_ (i:=7) (N:=some 25) (v:=?_) (a':=?_) #[true,true,true,true,true,true,true,true,false,false,false,false,false,false,false,false,false] rfl rfl (zW HT_.out zz84) (fun _ _ _ h=>h) (Or.inl ⟨by rfl,?_⟩) ?_ ?_
     rotate_left
     · intro w'
       go_simp
       with_reducible rfl
     rotate_left
     · simp only [Act.put,List.setIfInBounds_toArray,List.set_cons_zero,List.set_cons_succ,zH,zI]
       rfl
     refine pure_ (i:=9) (N:=some 27) (v:=?_) (a':=?_) #[true,true,true,true,true,true,true,true,false,true,false,false,false,false,false,false,false] rfl rfl (zW HT_.out zz84) (fun _ _ _ h=>h) (Or.inl ⟨by rfl,?_⟩) ?_ ?_
     rotate_left
     · intro w'
       go_simp
       with_reducible rfl
     rotate_left
     · simp only [Act.put,List.setIfInBounds_toArray,List.set_cons_zero,List.set_cons_succ,zH,zI]
       rfl
     refine pure_ (i:=10) (N:=some 28) (v:=?_) (a':=?_) #[true,true,true,true,true,true,true,true,false,true,true,false,false,false,false,false,false] rfl rfl (zW HT_.out zz84) (fun _ _ _ h=>h) (Or.inl ⟨by rfl,?_⟩) ?_ ?_
     rotate_left
     · intro w'
       go_simp
       with_reducible rfl
     rotate_left
     · simp only [Act.put,List.setIfInBounds_toArray,List.set_cons_zero,List.set_cons_succ,zH,zI]
       rfl
     refine pure_ (i:=11) (N:=some 29) (v:=?_) (a':=?_) #[true,true,true,true,true,true,true,true,false,true,true,true,false,false,false,false,false] rfl rfl (zW HT_.out zz84) (fun _ _ _ h=>h) (Or.inl ⟨by rfl,?_⟩) ?_ ?_
     rotate_left
     · intro w'
       go_simp
       with_reducible rfl
     rotate_left
     · simp only [Act.put,List.setIfInBounds_toArray,List.set_cons_zero,List.set_cons_succ,zH,zI]
       rfl
     refine pure_ (i:=12) (N:=some 30) (v:=?_) (a':=?_) #[true,true,true,true,true,true,true,true,false,true,true,true,true,false,false,false,false] rfl rfl (zW HT_.out zz84) (fun _ _ _ h=>h) (Or.inl ⟨by rfl,?_⟩) ?_ ?_
     rotate_left
     · intro w'
       go_simp
       with_reducible rfl
     rotate_left
     · simp only [Act.put,List.setIfInBounds_toArray,List.set_cons_zero,List.set_cons_succ,zH,zI]
       rfl
     refine take_ (i:=8) (N:=some 26) (v:=?_) (a':=?_) #[true,true,true,true,true,true,true,true,true,true,true,true,true,false,false,false,false] rfl rfl (z1N HT_.out HW_.out zz84) (fun _ _ _ h=>h) (Or.inl ⟨by rfl,?_⟩) hHeld ?_ ?_
     rotate_left
     · rintro w' ⟨s0,s1,s2,s3⟩
       go_simp
       with_reducible rfl
     rotate_left
     · simp only [Act.put,List.setIfInBounds_toArray,List.set_cons_zero,List.set_cons_succ,zH,zI]
       rfl
     refine take_ (i:=13) (N:=some 31) (v:=?_) (a':=?_) #[true,true,true,true,true,true,true,true,true,true,true,true,true,true,false,false,false] rfl rfl (z1N HT_.out HW_.out zz84) (fun _ _ _ h=>h) (Or.inl ⟨by rfl,?_⟩) hHeld ?_ ?_
     rotate_left
     · rintro w' ⟨s0,s1,s2,s3⟩
       go_simp
       with_reducible rfl
     rotate_left
     · simp only [Act.put,List.setIfInBounds_toArray,List.set_cons_zero,List.set_cons_succ,zH,zI]
       rfl
     refine one_ (i:=14) (N:=some 32) #[true,true,true,true,true,true,true,true,true,true,true,true,true,true,true,false,false] rfl rfl (z21 HT_.out zz84) zz85 (fun K hK=>?_)
     refine goesV_ Try.func82 zz84 rfl #[.agg #[.int .u64 ((rd_T35 x0_2 x9_2).f0),.int .u64 ((rd_T35 x0_2 x9_2).f1)],.agg #[.int .u64 ((rd_T35 x0_2 (ji9)).f0),.int .u64 ((rd_T35 x0_2 (ji9)).f1)]] zz88 rfl rfl zz40 ?_
     with_reducible refine (z1v.calls k2 ((rd_T35 x0_2 x9_2).f0) ((rd_T35 x0_2 x9_2).f1) ((rd_T35 x0_2 (ji9)).f0) ((rd_T35 x0_2 (ji9)).f1) t103 _ A12.out).mono ?_
     rintro e w18 ⟨rfl,hb⟩
     have HS0_:=(hb.cell (World.block_lt_of_cell? _ _ (hHeld.1))).trans (hHeld.1)
     have HS1_:=(hb.cell (World.block_lt_of_cell? _ _ (hHeld.2.1))).trans (hHeld.2.1)
     have HS2_:=(hb.cell (World.block_lt_of_cell? _ _ (hHeld.2.2.1))).trans (hHeld.2.2.1)
     have HS3_:=(hb.cell (World.block_lt_of_cell? _ _ (hHeld.2.2.2))).trans (hHeld.2.2.2)
     refine ⟨_,rfl,?_⟩
     have n0_:=z1.mk (Kd.zs zz75 hb)
     have n1_:=z1.mk (Kept.below (S:=(fun k_=>P0_ k_)) zz48 hb)
     have n2_:=z1.mk (ze zz47 hb)
     clear HO_0
     clear HK
     clear HB
     have HO_0:=n0_
     have HK:=n1_
     have HB:=n2_
     clear n0_ n1_ n2_
     (try clear hb)
     (try clear hb2)
     (try clear hk)
     (try clear hi)
     refine hK.out _ _ ⟨HS0_,HS1_,HS2_,HS3_⟩ (fun hHeld=>?_)
     clear hK K
     refine norm_ (a':=?_) ?_ ?_
     rotate_left
     · show Act.put _ (some 32) _ = _
       simp only [Act.put,List.setIfInBounds_toArray,List.set_cons_zero,List.set_cons_succ,zH,zI]
       rfl
     refine pure_ (i:=15) (N:=some 33) (v:=?_) (a':=?_) #[true,true,true,true,true,true,true,true,true,true,true,true,true,true,true,true,false] rfl rfl (zW HT_.out zz84) (fun _ _ _ h=>h) (Or.inl ⟨by rfl,?_⟩) ?_ ?_
     rotate_left
     · intro w'
       go_simp
       with_reducible rfl
     rotate_left
     · simp only [Act.put,List.setIfInBounds_toArray,List.set_cons_zero,List.set_cons_succ,zH,zI]
       rfl
     refine pure_ (i:=16) (N:=some 34) (v:=?_) (a':=?_) #[true,true,true,true,true,true,true,true,true,true,true,true,true,true,true,true,true] rfl rfl (zW HT_.out zz84) (fun _ _ _ h=>h) (Or.inl ⟨by rfl,?_⟩) ?_ ?_
     rotate_left
     · intro w'
       go_simp
       with_reducible rfl
     rotate_left
     · simp only [Act.put,List.setIfInBounds_toArray,List.set_cons_zero,List.set_cons_succ,zH,zI]
       rfl
     refine done_ (z2A HT_.out zz84) ?_
     try go_wp2
     have n0_:=z1.mk (Kd.zS HO_0.out)
     have n1_:=z1.mk (Kept.drew HK.out)
     have n2_:=z1.mk (zc HB.out)
     clear HO_0
     clear HK
     clear HB
     have HO_0:=n0_
     have HK:=n1_
     have HB:=n2_
     clear n0_ n1_ n2_
     have p104 : 0 ≤ ((ji9) : Int):=of_decide_eq_true zz81
     have q104 : (ji9) < (x0_2.length : Int):=of_decide_eq_true zz81
     obtain ⟨ad104,e104,hx104_0,hx104_1⟩:=z1Q (Kd.zA HO_0.out).2.2 (ji9) p104 q104
     obtain rfl : ad101 = ad104:=(by injection e104)
     replace p104:=eq_true p104
     replace q104:=eq_true q104
     have p105 : 0 ≤ (x9_2 : Int):=of_decide_eq_true zz81
     have q105 : x9_2 < (x0_2.length : Int):=of_decide_eq_true zz81
     obtain ⟨ad105,e105,hx105_0,hx105_1⟩:=z1Q (Kd.zA HO_0.out).2.2 x9_2 p105 q105
     obtain rfl : ad101 = ad105:=(by injection e105)
     replace p105:=eq_true p105
     replace q105:=eq_true q105
     have p14 : 0 ≤ (x9_2 : Int):=of_decide_eq_true zz81
     have q14 : (x9_2 : Int) < ((x0_2.length : Int) : Int):=of_decide_eq_true zz81
     obtain ⟨go14,co14,eo14,gb14,gl14,cl14,HG14⟩:=Kd.R_form HO_0.out zz86
     (first|cases eo14|(injection eo14 with ea_ en_ ec_;(first|subst ea_|(injection ea_ with ea_;subst ea_));subst ec_;clear en_))
     have GB14:=z1.mk gb14
     have GG14:=z1.mk HG14
     clear gb14 gl14 HG14
     have HMgo14:=z1.mk (show (P0_ go14 ∨ w.heap.size ≤ go14) from (HO_0.out.1 _ rfl))
     (first|simp only [z1J] at hx101_0|skip)
     (first|simp only [z1J] at hx101_1|skip)
     (first|simp only [z1J] at hx102_0|skip)
     (first|simp only [z1J] at hx102_1|skip)
     (first|simp only [z1J] at hx104_0|skip)
     (first|simp only [z1J] at hx104_1|skip)
     (first|simp only [z1J] at hx105_0|skip)
     (first|simp only [z1J] at hx105_1|skip)
     obtain ⟨ce14,hcl14,hM14,hcc14,hfr14⟩:=Kd.z3U HO_0.out z35 (x9_2 : Int) p14 q14
     obtain rfl:=z27 hM14
     have hx14_0 : World.cell? _ ⟨go14,(x9_2 : Int).toNat * 2,none⟩ = some (.int .u64 ((rd_T35 x0_2 x9_2).f0)):=hcc14 0 _ rfl
     have hx14_1 : World.cell? _ ⟨go14,(x9_2 : Int).toNat * 2 + 1,none⟩ = some (.int .u64 ((rd_T35 x0_2 x9_2).f1)):=hcc14 1 _ rfl
     have hf14_0 : World.frozen? _ ⟨go14,(x9_2 : Int).toNat * 2,none⟩ = false:=hfr14 0
     have hf14_1 : World.frozen? _ ⟨go14,(x9_2 : Int).toNat * 2 + 1,none⟩ = false:=hfr14 1
     clear hcl14 hcc14 hfr14 hM14
     replace p14:=eq_true p14
     replace q14:=eq_true q14
     obtain ⟨ce20,hcl20,hM20,hcc20,hfr20⟩:=Kd.z3U HO_0.out z35 (x9_2 : Int) (of_decide_eq_true zz81) (by have h_ : (x9_2 : Int) < ((x0_2.length : Int) : Int):=of_decide_eq_true zz81;first|exact h_|(have e_:=(Kd.zA HO_0.out).1;omega)|simpa using h_)
     obtain rfl:=z27 hM20
     have HP20:=(Kd.R_seg HO_0.out (x9_2 : Int) (of_decide_eq_true zz81) (by have h_ : (x9_2 : Int) < ((x0_2.length : Int) : Int):=of_decide_eq_true zz81;first|exact h_|(have e_:=(Kd.zA HO_0.out).1;omega)|simpa using h_) (seg:=[.int .u64 ((rd_T35 x0_2 (ji9)).f0),.int .u64 ((rd_T35 x0_2 (ji9)).f1)]) (j:=0) hcl20 hcc20 (show 2 ≤ 2 from by decide) (x':=(⟨(rd_T35 x0_2 (ji9)).f0,(rd_T35 x0_2 (ji9)).f1⟩ : S35)) (z2g _ _ _ (⟨(rd_T35 x0_2 (ji9)).f0,(rd_T35 x0_2 (ji9)).f1⟩ : S35) ) (fun _ hk=>hk)).1
     rw [← Ny106.out] at HP20
     have HQ20:=z1.mk HP20
     clear hcl20 hcc20 hfr20 hM20 HP20
     have p15 : 0 ≤ ((ji9) : Int):=of_decide_eq_true zz81
     have q15 : ((ji9) : Int) < ((x0_2.length : Int) : Int):=of_decide_eq_true zz81
     obtain ⟨ce15,hcl15,hM15,hcc15,hfr15⟩:=Kd.z3U HQ20.out z35 ((ji9) : Int) p15 q15
     obtain rfl:=z27 hM15
     have hx15_0 : World.cell? _ ⟨go14,((ji9) : Int).toNat * 2,none⟩ = some (.int .u64 ((rd_T35 y106 (ji9)).f0)):=hcc15 0 _ rfl
     have hx15_1 : World.cell? _ ⟨go14,((ji9) : Int).toNat * 2 + 1,none⟩ = some (.int .u64 ((rd_T35 y106 (ji9)).f1)):=hcc15 1 _ rfl
     have hf15_0 : World.frozen? _ ⟨go14,((ji9) : Int).toNat * 2,none⟩ = false:=hfr15 0
     have hf15_1 : World.frozen? _ ⟨go14,((ji9) : Int).toNat * 2 + 1,none⟩ = false:=hfr15 1
     clear hcl15 hcc15 hfr15 hM15
     replace p15:=eq_true p15
     replace q15:=eq_true q15
     obtain ⟨ce21,hcl21,hM21,hcc21,hfr21⟩:=Kd.z3U HQ20.out z35 ((ji9) : Int) (of_decide_eq_true zz81) (by have h_ : ((ji9) : Int) < ((x0_2.length : Int) : Int):=of_decide_eq_true zz81;first|exact h_|(have e_:=(Kd.zA HO_0.out).1;omega)|simpa using h_)
     obtain rfl:=z27 hM21
     have HP21:=(Kd.R_seg HQ20.out ((ji9) : Int) (of_decide_eq_true zz81) (by have h_ : ((ji9) : Int) < ((x0_2.length : Int) : Int):=of_decide_eq_true zz81;first|exact h_|(have e_:=(Kd.zA HO_0.out).1;omega)|simpa using h_) (seg:=[.int .u64 ((rd_T35 x0_2 x9_2).f0),.int .u64 ((rd_T35 x0_2 x9_2).f1)]) (j:=0) hcl21 hcc21 (show 2 ≤ 2 from by decide) (x':=(⟨(rd_T35 x0_2 x9_2).f0,(rd_T35 x0_2 x9_2).f1⟩ : S35)) (z2g _ _ _ (⟨(rd_T35 x0_2 x9_2).f0,(rd_T35 x0_2 x9_2).f1⟩ : S35) ) (fun _ hk=>hk)).1
     rw [← Ny107.out] at HP21
     have HQ21:=z1.mk HP21
     clear hcl21 hcc21 hfr21 hM21 HP21
     refine start_ (n:=18) (S:=fun w'=>w'.cell? ⟨go14,(((ji9)).toNat * 2),none⟩ = some (.int .u64 ((rd_T35 x0_2 (ji9)).f0)) ∧ w'.cell? ⟨go14,(((ji9)).toNat * 2) + 1,none⟩ = some (.int .u64 ((rd_T35 x0_2 (ji9)).f1)) ∧ w'.cell? ⟨go14,((x9_2).toNat * 2),none⟩ = some (.int .u64 ((rd_T35 x0_2 x9_2).f0)) ∧ w'.cell? ⟨go14,((x9_2).toNat * 2) + 1,none⟩ = some (.int .u64 ((rd_T35 x0_2 x9_2).f1))) (ds:=[15,17]) #[false,false,false,false,false,false,false,false,false,false,false,false,false,false,false,false,false,false] zz84 rfl rfl ⟨hx104_0,hx104_1,hx105_0,hx105_1⟩ (fun hHeld=>?_);refine z23 z6.tab6 z6.bits6 (fun HT_ HW_=>?_)
     generalize w18.drew = w19 at HO_0 HK HB GG14 HQ20 HQ21 hf14_0 hf14_1 hf15_0 hf15_1 hx101_0 hx101_1 hx102_0 hx102_1 hx104_0 hx104_1 hx105_0 hx105_1 hx14_0 hx14_1 hx15_0 hx15_1 hHeld ⊢
     refine pure_ (i:=0) (N:=some 37) (v:=?_) (a':=?_) #[true,false,false,false,false,false,false,false,false,false,false,false,false,false,false,false,false,false] rfl rfl (zW HT_.out zz84) (fun _ _ _ h=>h) (Or.inl ⟨by rfl,?_⟩) ?_ ?_
     rotate_left
     · intro w'
       go_simp
       with_reducible rfl
     rotate_left
     · simp only [Act.put,List.setIfInBounds_toArray,List.set_cons_zero,List.set_cons_succ,zH,zI]
       rfl
     refine pure_ (i:=1) (N:=some 38) (v:=?_) (a':=?_) #[true,true,false,false,false,false,false,false,false,false,false,false,false,false,false,false,false,false] rfl rfl (zW HT_.out zz84) (fun _ _ _ h=>h) (Or.inl ⟨by rfl,?_⟩) ?_ ?_
     rotate_left
     · intro w'
       go_simp
       with_reducible rfl
     rotate_left
     · simp only [Act.put,List.setIfInBounds_toArray,List.set_cons_zero,List.set_cons_succ,zH,zI]
       rfl
     refine pure_ (i:=2) (N:=some 39) (v:=?_) (a':=?_) #[true,true,true,false,false,false,false,false,false,false,false,false,false,false,false,false,false,false] rfl rfl (zW HT_.out zz84) (fun _ _ _ h=>h) (Or.inl ⟨by rfl,?_⟩) ?_ ?_
     rotate_left
     · intro w'
       go_simp
       with_reducible rfl
     rotate_left
     · simp only [Act.put,List.setIfInBounds_toArray,List.set_cons_zero,List.set_cons_succ,zH,zI]
       rfl
     refine pure_ (i:=3) (N:=some 40) (v:=?_) (a':=?_) #[true,true,true,true,false,false,false,false,false,false,false,false,false,false,false,false,false,false] rfl rfl (zW HT_.out zz84) (fun _ _ _ h=>h) (Or.inl ⟨by rfl,?_⟩) ?_ ?_
     rotate_left
     · intro w'
       go_simp
       with_reducible rfl
     rotate_left
     · simp only [Act.put,List.setIfInBounds_toArray,List.set_cons_zero,List.set_cons_succ,zH,zI]
       rfl
     refine pure_ (i:=4) (N:=some 41) (v:=?_) (a':=?_) #[true,true,true,true,true,false,false,false,false,false,false,false,false,false,false,false,false,false] rfl rfl (zW HT_.out zz84) (fun _ _ _ h=>h) (Or.inl ⟨by rfl,?_⟩) ?_ ?_
     rotate_left
     · intro w'
       go_simp
       with_reducible rfl
     rotate_left
     · simp only [Act.put,List.setIfInBounds_toArray,List.set_cons_zero,List.set_cons_succ,zH,zI]
       rfl
     refine pure_ (i:=5) (N:=some 42) (v:=?_) (a':=?_) #[true,true,true,true,true,true,false,false,false,false,false,false,false,false,false,false,false,false] rfl rfl (zW HT_.out zz84) (fun _ _ _ h=>h) (Or.inl ⟨by rfl,?_⟩) ?_ ?_
     rotate_left
     · intro w'
       go_simp
       with_reducible rfl
     rotate_left
     · simp only [Act.put,List.setIfInBounds_toArray,List.set_cons_zero,List.set_cons_succ,zH,zI]
       rfl
     refine pure_ (i:=6) (N:=some 43) (v:=?_) (a':=?_) #[true,true,true,true,true,true,true,false,false,false,false,false,false,false,false,false,false,false] rfl rfl (zW HT_.out zz84) (fun _ _ _ h=>h) (Or.inl ⟨by rfl,?_⟩) ?_ ?_
     rotate_left
     · intro w'
       go_simp
       with_reducible rfl
     rotate_left
     · simp only [Act.put,List.setIfInBounds_toArray,List.set_cons_zero,List.set_cons_succ,zH,zI]
       rfl
     refine pure_ (i:=7) (N:=some 44) (v:=?_) (a':=?_) #[true,true,true,true,true,true,true,true,false,false,false,false,false,false,false,false,false,false] rfl rfl (zW HT_.out zz84) (fun _ _ _ h=>h) (Or.inl ⟨by rfl,?_⟩) ?_ ?_
     rotate_left
     · intro w'
       go_simp
       with_reducible rfl
     rotate_left
     · simp only [Act.put,List.setIfInBounds_toArray,List.set_cons_zero,List.set_cons_succ,zH,zI]
       rfl
     refine pure_ (i:=8) (N:=some 45) (v:=?_) (a':=?_) #[true,true,true,true,true,true,true,true,true,false,false,false,false,false,false,false,false,false] rfl rfl (zW HT_.out zz84) (fun _ _ _ h=>h) (Or.inl ⟨by rfl,?_⟩) ?_ ?_
     rotate_left
     · intro w'
       go_simp
       with_reducible rfl
     rotate_left
     · simp only [Act.put,List.setIfInBounds_toArray,List.set_cons_zero,List.set_cons_succ,zH,zI]
       rfl
     refine pure_ (i:=10) (N:=some 47) (v:=?_) (a':=?_) #[true,true,true,true,true,true,true,true,true,false,true,false,false,false,false,false,false,false] rfl rfl (zW HT_.out zz84) (fun _ _ _ h=>h) (Or.inl ⟨by rfl,?_⟩) ?_ ?_
     rotate_left
     · intro w'
       go_simp
       with_reducible rfl
     rotate_left
     · simp only [Act.put,List.setIfInBounds_toArray,List.set_cons_zero,List.set_cons_succ,zH,zI]
       rfl
     refine pure_ (i:=11) (N:=some 48) (v:=?_) (a':=?_) #[true,true,true,true,true,true,true,true,true,false,true,true,false,false,false,false,false,false] rfl rfl (zW HT_.out zz84) (fun _ _ _ h=>h) (Or.inl ⟨by rfl,?_⟩) ?_ ?_
     rotate_left
     · intro w'
       go_simp
       with_reducible rfl
     rotate_left
     · simp only [Act.put,List.setIfInBounds_toArray,List.set_cons_zero,List.set_cons_succ,zH,zI]
       rfl
     refine pure_ (i:=12) (N:=some 49) (v:=?_) (a':=?_) #[true,true,true,true,true,true,true,true,true,false,true,true,true,false,false,false,false,false] rfl rfl (zW HT_.out zz84) (fun _ _ _ h=>h) (Or.inl ⟨by rfl,?_⟩) ?_ ?_
     rotate_left
     · intro w'
       go_simp
       with_reducible rfl
     rotate_left
     · simp only [Act.put,List.setIfInBounds_toArray,List.set_cons_zero,List.set_cons_succ,zH,zI]
       rfl
     refine take_ (i:=9) (N:=some 46) (v:=?_) (a':=?_) #[true,true,true,true,true,true,true,true,true,true,true,true,true,false,false,false,false,false] rfl rfl (z1N HT_.out HW_.out zz84) (fun _ _ _ h=>h) (Or.inl ⟨by rfl,?_⟩) hHeld ?_ ?_
     rotate_left
     · rintro w' ⟨s0,s1,s2,s3⟩
       go_simp
       with_reducible rfl
     rotate_left
     · simp only [Act.put,List.setIfInBounds_toArray,List.set_cons_zero,List.set_cons_succ,zH,zI]
       rfl
     refine take_ (i:=13) (N:=some 50) (v:=?_) (a':=?_) #[true,true,true,true,true,true,true,true,true,true,true,true,true,true,false,false,false,false] rfl rfl (z1N HT_.out HW_.out zz84) (fun _ _ _ h=>h) (Or.inl ⟨by rfl,?_⟩) hHeld ?_ ?_
     rotate_left
     · rintro w' ⟨s0,s1,s2,s3⟩
       go_simp
       with_reducible rfl
     rotate_left
     · simp only [Act.put,List.setIfInBounds_toArray,List.set_cons_zero,List.set_cons_succ,zH,zI]
       rfl
     refine pure_ (i:=14) (N:=some 51) (v:=?_) (a':=?_) #[true,true,true,true,true,true,true,true,true,true,true,true,true,true,true,false,false,false] rfl rfl (zW HT_.out zz84) (fun _ _ _ h=>h) (Or.inl ⟨by rfl,?_⟩) ?_ ?_
     rotate_left
     · intro w'
       go_simp
       with_reducible rfl
     rotate_left
     · simp only [Act.put,List.setIfInBounds_toArray,List.set_cons_zero,List.set_cons_succ,zH,zI]
       rfl
     refine last_ (i:=15) (N:=none) #[true,true,true,true,true,true,true,true,true,true,true,true,true,true,true,true,false,false] rfl rfl (z21 HT_.out zz84) zz85 (fun K hK=>?_)
     refine skip_ (w1:=?_) zz88 rfl ?_ ?_
     rotate_left
     · go_simp
       rfl
     refine hK.out _ _ ?_
     clear hK K
     obtain ⟨W_,hW_⟩ : ∃ W_,W_ = (w19.setCell ⟨go14,(x9_2 : Int).toNat * 2,none⟩ (.int .u64 ((rd_T35 x0_2 (ji9)).f0))).setCell ⟨go14,(x9_2 : Int).toNat * 2 + 1,none⟩ (.int .u64 ((rd_T35 x0_2 (ji9)).f1)):=⟨_,rfl⟩
     replace hf15_0 : World.frozen? W_ ⟨go14,((ji9) : Int).toNat * 2,none⟩ = false:=by rw [hW_];exact hf15_0
     replace hx15_0 : World.cell? W_ ⟨go14,((ji9) : Int).toNat * 2,none⟩ = some (.int .u64 ((rd_T35 y106 (ji9)).f0)):=by rw [hW_];exact hx15_0
     replace hf15_1 : World.frozen? W_ ⟨go14,((ji9) : Int).toNat * 2 + 1,none⟩ = false:=by rw [hW_];exact hf15_1
     replace hx15_1 : World.cell? W_ ⟨go14,((ji9) : Int).toNat * 2 + 1,none⟩ = some (.int .u64 ((rd_T35 y106 (ji9)).f1)):=by rw [hW_];exact hx15_1
     rw [← hW_]
     have HWA_:=z1.mk hW_
     clear hW_
     refine pure_ (i:=16) (N:=some 52) (v:=?_) (a':=?_) #[true,true,true,true,true,true,true,true,true,true,true,true,true,true,true,true,true,false] rfl rfl (zW HT_.out zz84) (fun _ _ _ h=>h) (Or.inl ⟨by rfl,?_⟩) ?_ ?_
     rotate_left
     · intro w'
       go_simp
       with_reducible rfl
     rotate_left
     · simp only [Act.put,List.setIfInBounds_toArray,List.set_cons_zero,List.set_cons_succ,zH,zI]
       rfl
     refine last_ (i:=17) (N:=none) #[true,true,true,true,true,true,true,true,true,true,true,true,true,true,true,true,true,true] rfl rfl (z21 HT_.out zz84) zz85 (fun K hK=>?_)
     refine skip_ (w1:=?_) zz88 rfl ?_ ?_
     rotate_left
     · go_simp
       rfl
     refine hK.out _ _ ?_
     clear hK K
     have hW_:=HWA_.out
     subst hW_
     refine done_ (z2A HT_.out zz84) ?_
     try go_wp2
     go_roundg k2
     case measure=>have:=HK1.out;have:=HK2.out;omega
     case rel=>exact ⟨(y107),(ji9),(by first|rfl|(simp;done)|(simp only [← hji9] <;> (first|rfl|simp))|(simp [*];done)),H',⟨by have:=HK1.out;have:=HK2.out;omega⟩,⟨by (with_reducible repeat (first|apply Kd.zL|apply Kd.zM|apply Kd.zS));exact HQ21.out⟩,⟨by repeat (first|(with_reducible first|exact HK.out|apply Kept.alloc|apply Kept.drewN|apply Kept.drew|refine Kept.setCell ?_ HMgo14.out _|refine Kept.setCell ?_ HMgo14.out _|refine Kept.setCell ?_ HMgo14.out _|refine Kept.setCell ?_ HMgo14.out _)|exact HK.out)⟩,⟨by repeat (first|(with_reducible first|exact HB.out|apply zd|apply z3|apply zc|refine za ?_ GB14.out|refine za ?_ GB14.out|refine za ?_ GB14.out|refine za ?_ GB14.out)|exact HB.out)⟩⟩
end Go.Proofs.Ytnhbdhgbmjcjdaa.P
namespace Go.Proofs.Ytnhbdhgbmjcjdaa.P
open Go.RowKit Go.Proofs.YtnhbdhgbmjcjdaaW.PrintWords Go.Proofs.YtnhbdhgbmjcjdaaW.PrintLast Go.Proofs.YtnhbdhgbmjcjdaaW.PrintMore
attribute [local go_sem] z10 z12 z1h z1i zQ zR z11 z13   -- for this text's walks alone
set_option linter.unusedVariables false
set_option linter.unusedSimpArgs false
mutual
def zp.l0 : Nat → List (S35) → Int → Int → Int → Option ((List (S35)))
 | 0,_,_,_,_=>none
 | k + 1,x0,x1,x2,x4=>if (wrap64 (x2 - x1)) ≤ 12 then ((z6.f k x0 x1 x2 x4).bind fun t101=>(some t101)) else (none)
def zp.f : Nat → List (S35) → Int → Int → Int → Int → Option ((List (S35)))
 | 0,_,_,_,_,_=>none
 | k + 1,l0,a1,a2,a3,a4=>zp.l0 k l0 a1 a2 a4
end
theorem zp.zY : ∀ k,(∀ y0 y1 y2 y3 y4,LeO (zp.f k y0 y1 y2 y3 y4) (zp.f (k + 1) y0 y1 y2 y3 y4)) ∧ (∀ y0 y1 y2 y3,LeO (zp.l0 k y0 y1 y2 y3) (zp.l0 (k + 1) y0 y1 y2 y3))
 | 0=>⟨fun _ _ _ _ _ r h=>by simp [zp.f] at h,fun _ _ _ _ r h=>by simp [zp.l0] at h⟩
 | k + 1=>by
  obtain ⟨ih0,ih1⟩:=zp.zY k
  refine ⟨?_,?_⟩
  · intro y0 y1 y2 y3 y4
    unfold zp.f
    repeat' first
    | (with_reducible exact ih0 _ _ _ _ _)
    | (with_reducible exact ih1 _ _ _ _)
    | (with_reducible exact z6.mono _ _ _ _ _)
    | (with_reducible exact LeO.refl _)
    | (with_reducible exact LeO.none _)
    | (with_reducible refine LeO.ite ?_ ?_)
    | (with_reducible refine LeO.bind ?_ (fun _=>?_))
    | exact ih0 _ _ _ _ _
    | exact ih1 _ _ _ _
    | exact z6.mono _ _ _ _ _
    | exact LeO.none _
    | refine LeO.ite ?_ ?_
    | refine LeO.bind ?_ (fun _=>?_)
  · intro y0 y1 y2 y3
    unfold zp.l0
    repeat' first
    | (with_reducible exact ih0 _ _ _ _ _)
    | (with_reducible exact ih1 _ _ _ _)
    | (with_reducible exact z6.mono _ _ _ _ _)
    | (with_reducible exact LeO.refl _)
    | (with_reducible exact LeO.none _)
    | (with_reducible refine LeO.ite ?_ ?_)
    | (with_reducible refine LeO.bind ?_ (fun _=>?_))
    | exact ih0 _ _ _ _ _
    | exact ih1 _ _ _ _
    | exact z6.mono _ _ _ _ _
    | exact LeO.none _
    | refine LeO.ite ?_ ?_
    | refine LeO.bind ?_ (fun _=>?_)
theorem zp.mono : ∀ a0 a1 a2 a3 a4 k,LeO (zp.f k a0 a1 a2 a3 a4) (zp.f (k + 1) a0 a1 a2 a3 a4):=by
 intro a0 a1 a2 a3 a4 k
 obtain ⟨ih0,ih1⟩:=zp.zY k
 exact ih0 a0 a1 a2 a3 a4
set_option maxHeartbeats 8000000 in
set_option maxRecDepth 100000 in
theorem zp.calls (k : Nat) : ∀ (P0_ : Nat → Prop) (u9000_ : Value) (l0 : List (S35)) (a1 : Int) (a2 : Int) (a3 : Int) (a4 : Int) (r : List (S35)) (w0 w : World) (hB : Below w0.heap.size w0 w) (ho0 : Kd.R k35 35 w w0.heap.size P0_ u9000_ l0) (h : zp.f k l0 a1 a2 a3 a4 = some r),
 Calls Try.prog 88 #[u9000_,.int .i64 a1,.int .i64 a2,.int .i64 a3,.func (.func 82) #[] #[]] w fun e w'=>e = .returned (.tuple #[]) ∧ Kd.R k35 35 w' w0.heap.size (fun k_=>(P0_ k_ ∨ w.heap.size ≤ k_)) u9000_ r ∧ Below w0.heap.size w0 w' ∧ Kept w w' (fun k_=>P0_ k_):=by
 induction k using Nat.strongRecOn with
 | _ k ih =>
 intro P0_ u9000_ l0 a1 a2 a3 a4 r w0 w hB ho0 h
 cases k with
 | zero=>exact absurd h (by simp [zp.f])
 | succ k =>
 simp only [zp.f] at h
 have HO0:=z1.mk (show Kd.R k35 35 w w0.heap.size (fun k_=>(P0_ k_ ∨ w.heap.size ≤ k_)) u9000_ l0 from Kd.z1j ho0 (fun k_ hk=>(.inl hk)))
 have HK:=z1.mk (Kept.refl w (fun k_=>P0_ k_))
 have HW0:=z1.mk hB.size
 have HB:=z1.mk hB
 clear hB
 have H : (zp.l0 k l0 a1 a2 a4) = some r:=h
 clear h
 have H':=z1.mk H
 clear H
 go_enter Try.func88,Try.ntmps88
 go_wp2
 go_loopg [1,2] k (fun kq v1 v2 w'=>∃ (x0_1 : List (S35)) (x1_1 : Int) (x2_1 : Int),v1 = .int .i64 x1_1 ∧ v2 = .int .i64 x2_1 ∧ z1 (zp.l0 kq x0_1 x1_1 x2_1 a4 = some r) ∧ z1 (kq ≤ k) ∧ z1 (Kd.R k35 35 w' w0.heap.size (fun k_=>(P0_ k_ ∨ w.heap.size ≤ k_)) u9000_ x0_1) ∧ z1 (Kept w w' (fun k_=>P0_ k_)) ∧ z1 (Below w0.heap.size w0 w'))
 case atStart=>exact ⟨(l0),(a1),(a2),zz82,zz82,H',⟨Nat.le_refl _⟩,⟨by (with_reducible repeat (first|apply Kd.zL|apply Kd.zM|apply Kd.zS));exact HO0.out⟩,⟨by repeat (first|(with_reducible first|exact HK.out|apply Kept.alloc|apply Kept.drewN|apply Kept.drew)|exact HK.out)⟩,⟨by repeat (first|(with_reducible first|exact HB.out|apply zd|apply z3|apply zc)|exact HB.out)⟩⟩
 case round =>
  clear H'
  (try clear p2)
  obtain ⟨x0_1,x1_1,x2_1,rfl,rfl,HA,HK1,HO_0,HK,HB⟩:=hrel
  cases gk with
  | zero=>exact absurd HA.out (by simp [zp.l0])
  | succ k1 =>
   have H:=HA.out
   clear HA
   simp only [zp.l0] at H
   by_cases c6 : (wrap64 (x2_1 - x1_1)) ≤ 12
   rotate_left
   · rw [if_neg c6] at H
     exact absurd H zz87
   rw [if_pos c6] at H
   have c6b0 : decide ((wrap64 (x2_1 - x1_1)) ≤ 12) = true:=decide_eq_true c6
   clear c6
   replace H:=Option.bind_eq_some_iff.mp H
   obtain ⟨t101,A70,H⟩:=H
   replace H : (some t101) = some r:=H
   have A7:=z1.mk A70
   clear A70
   obtain rfl:=Option.some.inj H
   obtain ⟨Ao8,co8,eo8⟩:=Kd.z1e HO_0.out
   subst eo8
   go_wp2_with (first|((with_reducible refine zo (f:=91) rfl ?_);refine goesL_ (some 30) rfl rfl Try.func91 zz84 rfl #[.slice Ao8 x0_1.length co8,.int .i64 x1_1,.int .i64 x2_1,.func (.func 82) #[] #[]] rfl zz45 ?_;(with_reducible refine (z6.calls k1 (fun k_=>some k_ = (.slice Ao8 x0_1.length co8 : Value).ownBlock) (.slice Ao8 x0_1.length co8) x0_1 x1_1 x2_1 a4 t101 w0 _ ?side1 ?side2 A7.out).mono ?_);(case side1=>repeat (first|(with_reducible first|exact HB.out|apply zd|apply z3|apply zc)|exact HB.out));(case side2=>exact Kd.z3q rfl HO_0.out);rintro e w9 ⟨rfl,hy0,hb,hkp⟩;refine ⟨_,rfl,?_⟩;have n0_:=z1.mk (Kd.z5P rfl hy0 (fun k_ e_=>HO_0.out.1 k_ e_));have n1_:=z1.mk (Kept.then_ (S:=(fun k_=>P0_ k_)) zz48 hkp (fun k_ hs_=>(fun e_=>(HO_0.out.1 k_ e_.symm)) hs_));have n2_:=z1.mk (hb);clear HO_0;clear HK;clear HB;have HO_0:=n0_;have HK:=n1_;have HB:=n2_;clear n0_ n1_ n2_;(try clear hb);(try clear hkp);(try clear hy0)))
   first|go_end0|((try simp only [Exit.inBlock,Exit.then]);refine bodyPost_ret (results_none rfl _ _ _) rfl ?_)
   exact ⟨by first|rfl|(simp [zi,zj] <;> rfl)|(simp [*,zi,zj] <;> rfl),by (with_reducible repeat (first|apply Kd.zL|apply Kd.zM|apply Kd.zS));exact HO_0.out,by repeat (first|(with_reducible first|exact HB.out|apply zd|apply z3|apply zc)|exact HB.out),by repeat (first|(with_reducible first|exact HK.out|apply Kept.alloc|apply Kept.drewN|apply Kept.drew)|exact HK.out)⟩
end Go.Proofs.Ytnhbdhgbmjcjdaa.P
namespace Go.Proofs.Ytnhbdhgbmjcjdaa.P
open Go.RowKit Go.Proofs.YtnhbdhgbmjcjdaaW.PrintWords Go.Proofs.YtnhbdhgbmjcjdaaW.PrintLast Go.Proofs.YtnhbdhgbmjcjdaaW.PrintMore
attribute [local go_sem] z10 z12 z1h z1i zQ zR z11 z13   -- for this text's walks alone
set_option linter.unusedVariables false
set_option linter.unusedSimpArgs false
def zZ.f (k : Nat) (l0 : List (S35)) (a1 : Int) : Option ((List (S35))):=(z1R.f k (IntKind.u64.wrap ((l0.length : Int)))).bind fun t101=>((zp.f k l0 0 (l0.length : Int) t101 a1).bind fun t102=>(some t102))
theorem zZ.mono : ∀ a0 a1 k,LeO (zZ.f k a0 a1) (zZ.f (k + 1) a0 a1):=by
 intro a0 a1 k
 unfold zZ.f
 repeat' first
  | (with_reducible exact z1R.mono _ _)
  | (with_reducible exact zp.mono _ _ _ _ _ _)
  | (with_reducible exact LeO.refl _)
  | (with_reducible exact LeO.none _)
  | (with_reducible refine LeO.ite ?_ ?_)
  | (with_reducible refine LeO.bind ?_ (fun _=>?_))
  | exact z1R.mono _ _
  | exact zp.mono _ _ _ _ _ _
  | exact LeO.none _
  | refine LeO.ite ?_ ?_
  | refine LeO.bind ?_ (fun _=>?_)
set_option maxHeartbeats 8000000 in
set_option maxRecDepth 100000 in
theorem zZ.calls (k : Nat) (P0_ : Nat → Prop) (u9000_ : Value) (l0 : List (S35)) (a1 : Int) (r : List (S35)) (w0 w : World) (hB : Below w0.heap.size w0 w) (ho0 : Kd.R k35 35 w w0.heap.size P0_ u9000_ l0) (h : zZ.f k l0 a1 = some r) :
 Calls Try.prog 81 #[u9000_,.func (.func 82) #[] #[]] w fun e w'=>e = .returned (.tuple #[]) ∧ Kd.R k35 35 w' w0.heap.size (fun k_=>(P0_ k_ ∨ w.heap.size ≤ k_)) u9000_ r ∧ Below w0.heap.size w0 w' ∧ Kept w w' (fun k_=>P0_ k_):=by
 have HO0:=z1.mk (show Kd.R k35 35 w w0.heap.size (fun k_=>(P0_ k_ ∨ w.heap.size ≤ k_)) u9000_ l0 from Kd.z1j ho0 (fun k_ hk=>(.inl hk)))
 have HK:=z1.mk (Kept.refl w (fun k_=>P0_ k_))
 have HW0:=z1.mk hB.size
 have HB:=z1.mk hB
 clear hB
 have H : ((z1R.f k (IntKind.u64.wrap ((l0.length : Int)))).bind fun t101=>((zp.f k l0 0 (l0.length : Int) t101 a1).bind fun t102=>(some t102))) = some r:=h
 clear h
 replace H:=Option.bind_eq_some_iff.mp H
 obtain ⟨t101,A30,H⟩:=H
 replace H : ((zp.f k l0 0 (l0.length : Int) t101 a1).bind fun t102=>(some t102)) = some r:=H
 have A3:=z1.mk A30
 clear A30
 replace H:=Option.bind_eq_some_iff.mp H
 obtain ⟨t102,A40,H⟩:=H
 replace H : (some t102) = some r:=H
 have A4:=z1.mk A40
 clear A40
 obtain rfl:=Option.some.inj H
 obtain ⟨Ao5,co5,eo5⟩:=Kd.z1e HO0.out
 subst eo5
 go_enter Try.func81,Try.ntmps81
 go_wp2_with (first|((with_reducible refine zo (f:=89) rfl ?_);refine goesL_ (some 11) rfl rfl Try.func89 zz84 rfl #[.int .u64 (IntKind.u64.wrap ((l0.length : Int)))] rfl zz45 ?_;(with_reducible refine (z1R.calls k (IntKind.u64.wrap ((l0.length : Int))) t101 _ A3.out).mono ?_);rintro e w' ⟨rfl,⟨nd,rfl⟩⟩;refine ⟨_,rfl,?_⟩)|((with_reducible refine zo (f:=88) rfl ?_);refine goesL_ (some 13) rfl rfl Try.func88 zz84 rfl #[.slice Ao5 l0.length co5,.int .i64 0,.int .i64 (l0.length : Int),.int .i64 t101,.func (.func 82) #[] #[]] rfl zz45 ?_;(with_reducible refine (zp.calls k (fun k_=>some k_ = (.slice Ao5 l0.length co5 : Value).ownBlock) (.slice Ao5 l0.length co5) l0 0 (l0.length : Int) t101 a1 t102 w0 _ ?side1 ?side2 A4.out).mono ?_);(case side1=>repeat (first|(with_reducible first|exact HB.out|apply zd|apply z3|apply zc)|exact HB.out));(case side2=>exact Kd.z3q rfl HO0.out);rintro e w6 ⟨rfl,hy0,hb,hkp⟩;refine ⟨_,rfl,?_⟩;have n0_:=z1.mk (Kd.z5P rfl hy0 (fun k_ e_=>HO0.out.1 k_ e_));have n1_:=z1.mk (Kept.then_ (S:=(fun k_=>P0_ k_)) zz48 hkp (fun k_ hs_=>(fun e_=>(HO0.out.1 k_ e_.symm)) hs_));have n2_:=z1.mk (hb);clear HO0;clear HK;clear HB;have HO0:=n0_;have HK:=n1_;have HB:=n2_;clear n0_ n1_ n2_;(try clear hb);(try clear hkp);(try clear hy0)))
 first|go_end0|((try simp only [Exit.inBlock,Exit.then]);refine bodyPost_ret (results_none rfl _ _ _) rfl ?_)
 exact ⟨by first|rfl|(simp [zi,zj] <;> rfl)|(simp [*,zi,zj] <;> rfl),by (with_reducible repeat (first|apply Kd.zL|apply Kd.zM|apply Kd.zS));exact HO0.out,by repeat (first|(with_reducible first|exact HB.out|apply zd|apply z3|apply zc)|exact HB.out),by repeat (first|(with_reducible first|exact HK.out|apply Kept.alloc|apply Kept.drewN|apply Kept.drew)|exact HK.out)⟩
end Go.Proofs.Ytnhbdhgbmjcjdaa.P
namespace Go.Proofs.Ytnhbdhgbmjcjdaa.P
open Go.RowKit Go.Proofs.YtnhbdhgbmjcjdaaW.PrintWords Go.Proofs.YtnhbdhgbmjcjdaaW.PrintLast Go.Proofs.YtnhbdhgbmjcjdaaW.PrintMore
attribute [local go_sem] z10 z12 z1h z1i zQ zR z11 z13   -- for this text's walks alone
set_option linter.unusedVariables false
set_option linter.unusedSimpArgs false
attribute [local go_sem high] eqA35
def z1k.l0 : Nat → List (S35) → List (S35) → Int → Int → Int → Int → Option ((List (S35)))
 | 0,_,_,_,_,_,_=>none
 | k + 1,x5,x15,x16,x17,x102000,x102001=>if x17 < x16 then (if 0 ≤ x17 then (if x17 < (x15.length : Int) then ((z14.f k x102000 x102001).bind fun t110=>((z1d.f k ((rd_T35 x15 x17).f0) ((rd_T35 x15 x17).f1) t110).bind fun t111=>(if t111 = true then ((z1t.f ((rd_T35 x15 x17).f0) ((rd_T35 x15 x17).f1) x102000 x102001).bind fun bt112=>(if x5.length < 8796093022208 then (z1k.l0 k (x5 ++ [(⟨bt112.1,bt112.2⟩ : S35)]) x15 x16 (wrap64 (x17 + 1)) x102000 x102001) else (none))) else (if x5.length < 8796093022208 then (z1k.l0 k (x5 ++ [(⟨(rd_T35 x15 x17).f0,(rd_T35 x15 x17).f1⟩ : S35)]) x15 x16 (wrap64 (x17 + 1)) x102000 x102001) else (none))))) else (none)) else (none)) else (if x5.length < 8796093022208 then ((zZ.f k (x5 ++ [(⟨x102000,x102001⟩ : S35)]) 90909082).bind fun t107=>(some t107)) else (none))
def z1k.f (k : Nat) (l0 : List (S35)) (a1_0 : Int) (a1_1 : Int) : Option ((List (S35))):=(z1c.f k l0 a1_0 a1_1).bind fun bt102=>(if (bt102.1 == 0 && (bt102.2 == 0)) = true then (some l0) else (z1k.l0 k ([] : List (S35)) l0 (l0.length : Int) 0 bt102.1 bt102.2))
theorem z1k.zY : ∀ k,(∀ y0 y1 y2 y3 y4 y5,LeO (z1k.l0 k y0 y1 y2 y3 y4 y5) (z1k.l0 (k + 1) y0 y1 y2 y3 y4 y5))
 | 0=>fun _ _ _ _ _ _ r h=>by simp [z1k.l0] at h
 | k + 1=>by
  have ih0:=z1k.zY k
  · intro y0 y1 y2 y3 y4 y5
    unfold z1k.l0
    repeat' first
    | (with_reducible exact ih0 _ _ _ _ _ _)
    | (with_reducible exact zZ.mono _ _ _)
    | (with_reducible exact z1d.mono _ _ _ _)
    | (with_reducible exact z14.mono _ _ _)
    | (with_reducible exact z1c.mono _ _ _ _)
    | (with_reducible exact LeO.refl _)
    | (with_reducible exact LeO.none _)
    | (with_reducible refine LeO.ite ?_ ?_)
    | (with_reducible refine LeO.bind ?_ (fun _=>?_))
    | exact ih0 _ _ _ _ _ _
    | exact zZ.mono _ _ _
    | exact z1d.mono _ _ _ _
    | exact z14.mono _ _ _
    | exact z1c.mono _ _ _ _
    | exact LeO.none _
    | refine LeO.ite ?_ ?_
    | refine LeO.bind ?_ (fun _=>?_)
theorem z1k.mono : ∀ a0 a1 a2 k,LeO (z1k.f k a0 a1 a2) (z1k.f (k + 1) a0 a1 a2):=by
 intro a0 a1 a2 k
 have ih0:=z1k.zY k
 unfold z1k.f
 repeat' first
  | (with_reducible exact ih0 _ _ _ _ _ _)
  | (with_reducible exact zZ.mono _ _ _)
  | (with_reducible exact z1d.mono _ _ _ _)
  | (with_reducible exact z14.mono _ _ _)
  | (with_reducible exact z1c.mono _ _ _ _)
  | (with_reducible exact LeO.refl _)
  | (with_reducible exact LeO.none _)
  | (with_reducible refine LeO.ite ?_ ?_)
  | (with_reducible refine LeO.bind ?_ (fun _=>?_))
  | exact ih0 _ _ _ _ _ _
  | exact zZ.mono _ _ _
  | exact z1d.mono _ _ _ _
  | exact z14.mono _ _ _
  | exact z1c.mono _ _ _ _
  | exact LeO.none _
  | refine LeO.ite ?_ ?_
  | refine LeO.bind ?_ (fun _=>?_)
set_option maxHeartbeats 8000000 in
set_option maxRecDepth 100000 in
theorem z1k.calls (k : Nat) (P0_ : Nat → Prop) (u9000_ : Value) (l0 : List (S35)) (a1_0 : Int) (a1_1 : Int) (r : List (S35)) (w0 w : World) (hB : Below w0.heap.size w0 w) (ho0 : Kd.R k35 35 w w0.heap.size P0_ u9000_ l0) (h : z1k.f k l0 a1_0 a1_1 = some r) :
 Calls Try.prog 66 #[u9000_,.agg #[.int .u64 a1_0,.int .u64 a1_1]] w fun e w'=>∃ v0_ : Value,e = .returned (v0_) ∧ Kd.R k35 35 w' w0.heap.size (fun k_=>(P0_ k_ ∨ w.heap.size ≤ k_)) v0_ r ∧ Below w0.heap.size w0 w' ∧ Kept w w' (fun k_=>P0_ k_):=by
 have hmf : ∀ (fn : Fn) (first cap : Array Value) (w : World),(Instr.makeFunc fn first cap).run Try.prog w = .ok (.func fn first cap) w:=fun _ _ _ _=>rfl
 have hu35:=Try.underlying35
 have HO0:=z1.mk (show Kd.R k35 35 w w0.heap.size (fun k_=>(P0_ k_ ∨ w.heap.size ≤ k_)) u9000_ l0 from Kd.z1j ho0 (fun k_ hk=>(.inl hk)))
 have HK:=z1.mk (Kept.refl w (fun k_=>P0_ k_))
 have HW0:=z1.mk hB.size
 have HB:=z1.mk hB
 clear hB
 have H : ((z1c.f k l0 a1_0 a1_1).bind fun bt102=>(if (bt102.1 == 0 && (bt102.2 == 0)) = true then (some l0) else (z1k.l0 k ([] : List (S35)) l0 (l0.length : Int) 0 bt102.1 bt102.2))) = some r:=h
 clear h
 replace H:=Option.bind_eq_some_iff.mp H
 obtain ⟨⟨t102,t103⟩,A30,H⟩:=H
 replace H : (if (t102 == 0 && (t103 == 0)) = true then (some l0) else (z1k.l0 k ([] : List (S35)) l0 (l0.length : Int) 0 t102 t103)) = some r:=H
 have A3:=z1.mk A30
 clear A30
 by_cases c4 : (t102 == 0 && (t103 == 0)) = true
 · rw [if_pos c4] at H
   have c4b0 : (t102 == 0 && (t103 == 0)) = true:=c4
   (try (have c4b1 : decide (t102 = 0 && (t103 == 0)) = true:=by simpa using c4))
   (try (have c4b2 : (t102 == 0 && (t103 == 0)) = true:=by simpa using c4))
   clear c4
   obtain rfl:=Option.some.inj H
   go_enter Try.func66,Try.ntmps66
   go_wp2_with (first|((with_reducible refine zE (N:=3) rfl ?_);refine zC ?hg (N:=3) ?hd (cs:=#[.int .u64 a1_0,.int .u64 a1_1]) (t:=35) ?hr ?_;(case hd=>rfl);(case hg=>rfl);(case hr=>first|(go_simp;done)|(go_simp;rfl));intro gb101 hg w5 hbox hb;have n0_:=z1.mk (Kd.zs (Kd.z1B zz77 gb101 (Nat.le_of_eq hg.symm)) hb);have n1_:=z1.mk (Kept.below (S:=(fun k_=>P0_ k_)) zz48 hb);have n2_:=z1.mk (ze zz47 hb);have n3_:=z1.mk (hbox);have n4_:=z1.mk ((by rw [hg];exact zz35 : w.heap.size ≤ gb101));have n5_:=z1.mk ((by rw [hg];exact (zf zz47) : w0.heap.size ≤ gb101));clear HO0;clear HK;clear HB;have HO0:=n0_;have HK:=n1_;have HB:=n2_;have BK101:=n3_;have GW101:=n4_;have GE101:=n5_;clear n0_ n1_ n2_ n3_ n4_ n5_;clear hb hbox hg;have hcz6_0 : w5.cell? ⟨gb101,0,none⟩ = some (.int .u64 a1_0):=(z5 BK101.out 0).trans rfl;have hcz6_1 : w5.cell? ⟨gb101,1,none⟩ = some (.int .u64 a1_1):=(z5 BK101.out 1).trans rfl;have hfz6_0:=z4 BK101.out 0;have hfz6_1:=z4 BK101.out 1;obtain ⟨Ao7,co7,eo7⟩:=Kd.z1e HO0.out;subst eo7)|((with_reducible refine zo (f:=80) rfl ?_);refine goesL_ (some 10) rfl rfl Try.func80 zz84 rfl #[.slice Ao7 l0.length co7,.agg #[.int .u64 a1_0,.int .u64 a1_1]] rfl zz45 ?_;(with_reducible refine (z1c.calls k _ _ l0 a1_0 a1_1 t102 t103 _ ?side1 ?side2 A3.out).mono ?_);(case side1=>repeat (first|exact (Kd.zA HO0.out).2.2|(with_reducible refine Kd.z15 ?_ _)|(with_reducible refine Kd.z16 ?_ _)|(with_reducible refine Kd.z1m ?_)));(case side2=>exact (Kd.zA HO0.out).2.1);rintro e w8 ⟨rfl,hb⟩;refine ⟨_,rfl,?_⟩;have n0_:=z1.mk (Kd.zs zz77 hb);have n1_:=z1.mk (z9 (g:=gb101) (o:=.cells #[.int .u64 a1_0,.int .u64 a1_1] 35 (0,0)) zz49 hb);have n2_:=z1.mk (Kept.below (S:=(fun k_=>P0_ k_)) zz39 hb);have n3_:=z1.mk (ze zz41 hb);clear HO0;clear BK101;clear HK;clear HB;have HO0:=n0_;have BK101:=n1_;have HK:=n2_;have HB:=n3_;clear n0_ n1_ n2_ n3_;(try clear hb);(try clear hb2);(try clear hk);(try clear hi);have hcz9_0 : w8.cell? ⟨gb101,0,none⟩ = some (.int .u64 a1_0):=(z5 BK101.out 0).trans rfl;have hcz9_1 : w8.cell? ⟨gb101,1,none⟩ = some (.int .u64 a1_1):=(z5 BK101.out 1).trans rfl;have hfz9_0:=z4 BK101.out 0;have hfz9_1:=z4 BK101.out 1))
   go_ret
   exact ⟨_,by first|rfl|(simp [zi,zj] <;> rfl)|(simp [*,zi,zj] <;> rfl),by (with_reducible repeat (first|apply Kd.zL|apply Kd.zM|apply Kd.zS));exact Kd.z1j (Kd.z1O (p:=⟨gb101,1,none⟩) (Kd.z1O (p:=⟨gb101,0,none⟩) (Kd.z1j HO0.out (fun k_ hk=>(⟨hk,hk.2⟩ : _ ∧ k_ ≠ gb101))) (fun _ hk=>hk.2) (.int .u64 t102)) (fun _ hk=>hk.2) (.int .u64 t103)) (fun _ hk=>hk.1.1),by repeat (first|(with_reducible first|exact HB.out|apply zd|apply z3|apply zc|refine za ?_ GE101.out)|exact HB.out),by repeat (first|(with_reducible first|exact HK.out|apply Kept.alloc|apply Kept.drewN|apply Kept.drew|refine Kept.setCell ?_ (.inr GW101.out) _)|exact HK.out)⟩
 rw [if_neg c4] at H
 have c4b0 : (t102 == 0 && (t103 == 0)) = false:=by simpa using c4
 (try (have c4b1 : decide (t102 = 0 && (t103 == 0)) = false:=by simpa using c4))
 (try (have c4b2 : (t102 == 0 && (t103 == 0)) = false:=by simpa using c4))
 (try (have c4b3 : ¬ (t102 = 0 && (t103 == 0)):=by simpa using c4))
 clear c4
 have H':=z1.mk H
 clear H
 go_enter Try.func66,Try.ntmps66
 go_wp2_with (first|((with_reducible refine zE (N:=3) rfl ?_);refine zC ?hg (N:=3) ?hd (cs:=#[.int .u64 a1_0,.int .u64 a1_1]) (t:=35) ?hr ?_;(case hd=>rfl);(case hg=>rfl);(case hr=>first|(go_simp;done)|(go_simp;rfl));intro gb101 hg w10 hbox hb;have n0_:=z1.mk (Kd.zs (Kd.z1B zz77 gb101 (Nat.le_of_eq hg.symm)) hb);have n1_:=z1.mk (Kept.below (S:=(fun k_=>P0_ k_)) zz48 hb);have n2_:=z1.mk (ze zz47 hb);have n3_:=z1.mk (hbox);have n4_:=z1.mk ((by rw [hg];exact zz35 : w.heap.size ≤ gb101));have n5_:=z1.mk ((by rw [hg];exact (zf zz47) : w0.heap.size ≤ gb101));clear HO0;clear HK;clear HB;have HO0:=n0_;have HK:=n1_;have HB:=n2_;have BK101:=n3_;have GW101:=n4_;have GE101:=n5_;clear n0_ n1_ n2_ n3_ n4_ n5_;clear hb hbox hg;have hcz11_0 : w10.cell? ⟨gb101,0,none⟩ = some (.int .u64 a1_0):=(z5 BK101.out 0).trans rfl;have hcz11_1 : w10.cell? ⟨gb101,1,none⟩ = some (.int .u64 a1_1):=(z5 BK101.out 1).trans rfl;have hfz11_0:=z4 BK101.out 0;have hfz11_1:=z4 BK101.out 1;obtain ⟨Ao12,co12,eo12⟩:=Kd.z1e HO0.out;subst eo12)|((with_reducible refine zo (f:=80) rfl ?_);refine goesL_ (some 10) rfl rfl Try.func80 zz84 rfl #[.slice Ao12 l0.length co12,.agg #[.int .u64 a1_0,.int .u64 a1_1]] rfl zz45 ?_;(with_reducible refine (z1c.calls k _ _ l0 a1_0 a1_1 t102 t103 _ ?side1 ?side2 A3.out).mono ?_);(case side1=>repeat (first|exact (Kd.zA HO0.out).2.2|(with_reducible refine Kd.z15 ?_ _)|(with_reducible refine Kd.z16 ?_ _)|(with_reducible refine Kd.z1m ?_)));(case side2=>exact (Kd.zA HO0.out).2.1);rintro e w13 ⟨rfl,hb⟩;refine ⟨_,rfl,?_⟩;have n0_:=z1.mk (Kd.zs zz77 hb);have n1_:=z1.mk (z9 (g:=gb101) (o:=.cells #[.int .u64 a1_0,.int .u64 a1_1] 35 (0,0)) zz49 hb);have n2_:=z1.mk (Kept.below (S:=(fun k_=>P0_ k_)) zz39 hb);have n3_:=z1.mk (ze zz41 hb);clear HO0;clear BK101;clear HK;clear HB;have HO0:=n0_;have BK101:=n1_;have HK:=n2_;have HB:=n3_;clear n0_ n1_ n2_ n3_;(try clear hb);(try clear hb2);(try clear hk);(try clear hi);have hcz14_0 : w13.cell? ⟨gb101,0,none⟩ = some (.int .u64 a1_0):=(z5 BK101.out 0).trans rfl;have hcz14_1 : w13.cell? ⟨gb101,1,none⟩ = some (.int .u64 a1_1):=(z5 BK101.out 1).trans rfl;have hfz14_0:=z4 BK101.out 0;have hfz14_1:=z4 BK101.out 1))
 go_loopg [5,17] k (fun kq v5 v17 w'=>∃ (x5_1 : List (S35)) (x17_1 : Int),v17 = .int .i64 x17_1 ∧ z1 (z1k.l0 kq x5_1 l0 (l0.length : Int) x17_1 t102 t103 = some r) ∧ z1 (kq ≤ k) ∧ z1 (Kd.R k35 35 w' w0.heap.size (fun k_=>(P0_ k_ ∨ w.heap.size ≤ k_) ∧ some k_ ≠ ((.slice Ao12 l0.length co12) : Value).ownBlock ∧ k_ ≠ gb101) v5 x5_1) ∧ z1 (Kd.R k35 35 w' w0.heap.size (fun k_=>(P0_ k_ ∨ w.heap.size ≤ k_) ∧ some k_ ≠ (v5 : Value).ownBlock ∧ k_ ≠ gb101) (.slice Ao12 l0.length co12) l0) ∧ z1 (w'.heap[gb101]? = some (.cells #[.int .u64 t102,.int .u64 t103] 35 (0,0))) ∧ z1 (Kept w w' (fun k_=>P0_ k_)) ∧ z1 (Below w0.heap.size w0 w'))
 case atStart=>exact ⟨(([] : List (S35))),(0),zz82,H',⟨Nat.le_refl _⟩,⟨by first|exact Kd.z2e _ _ _ _ _|exact Kd.z2t _ _ _ _ _|exact Kd.z2w _ _ _ _ _|exact Kd.z2u _ _ _ _ _|exact Kd.z2v _ _ _ _ _⟩,⟨by (with_reducible repeat (first|apply Kd.zL|apply Kd.zM|apply Kd.zS));exact Kd.z1j (Kd.z1O (p:=⟨gb101,1,none⟩) (Kd.z1O (p:=⟨gb101,0,none⟩) (Kd.z1j HO0.out (fun k_ hk=>(⟨hk,hk.2⟩ : _ ∧ k_ ≠ gb101))) (fun _ hk=>hk.2) (.int .u64 t102)) (fun _ hk=>hk.2) (.int .u64 t103)) (fun _ hk=>⟨hk.1.1,⟨(by simp [Value.ownBlock]),hk.1.2⟩⟩)⟩,⟨by (with_reducible repeat (first|refine z8 ?_ _|refine zb ?_|refine z7 ?_ _));refine zT (cs:=#[.int .u64 t102,.int .u64 a1_1]) ?_ 1 _ rfl;(with_reducible repeat (first|refine z8 ?_ _|refine zb ?_|refine z7 ?_ _));refine zT (cs:=#[.int .u64 a1_0,.int .u64 a1_1]) ?_ 0 _ rfl;(with_reducible repeat (first|refine z8 ?_ _|refine zb ?_|refine z7 ?_ _));exact BK101.out⟩,⟨by repeat (first|(with_reducible first|exact HK.out|apply Kept.alloc|apply Kept.drewN|apply Kept.drew|refine Kept.setCell ?_ (.inr GW101.out) _)|exact HK.out)⟩,⟨by repeat (first|(with_reducible first|exact HB.out|apply zd|apply z3|apply zc|refine za ?_ GE101.out)|exact HB.out)⟩⟩
 case round =>
  clear H'
  (try clear p2);(try clear c4);(try clear c4b0);(try clear c4b1);(try clear c4b2);(try clear c6);(try clear c8);(try clear hcz11_0);(try clear hcz11_1);(try clear hcz14_0);(try clear hcz14_1);(try clear hcz6_0);(try clear hcz6_1);(try clear hcz9_0);(try clear hcz9_1);(try clear hfz11_0);(try clear hfz11_1);(try clear hfz14_0);(try clear hfz14_1);(try clear hfz6_0);(try clear hfz6_1);(try clear hfz9_0);(try clear hfz9_1)
  obtain ⟨x5_1,x17_1,rfl,HA,HK1,HO_5,HO_15,BK101,HK,HB⟩:=hrel
  cases gk with
  | zero=>exact absurd HA.out (by simp [z1k.l0])
  | succ k1 =>
   have H:=HA.out
   clear HA
   simp only [z1k.l0] at H
   by_cases c15 : x17_1 < (l0.length : Int)
   rotate_left
   · rw [if_neg c15] at H
     have c15b0 : decide (x17_1 < (l0.length : Int)) = false:=decide_eq_false c15
     clear c15
     by_cases c45 : x5_1.length < 8796093022208
     rotate_left
     · rw [if_neg c45] at H
       exact absurd H zz87
     rw [if_pos c45] at H
     have LMc45:=z1.mk c45
     clear c45
     obtain ⟨y104,hy104⟩ : ∃ y_ : List (S35),y_ = (x5_1 ++ [(⟨t102,t103⟩ : S35)]):=⟨_,rfl⟩
     replace H : ((zZ.f k1 y104 90909082).bind fun t107=>(some t107)) = some r:=by first|(rw [hy104];with_reducible exact H)|(have H2_:=(Option.bind_some _ _).symm.trans H;rw [hy104];with_reducible exact H2_)|(have H2_:=(Option.bind_some _ _).symm.trans H;with_reducible exact H2_)|with_reducible exact H|(rw [hy104];exact H)|exact H
     have Ny104:=z1.mk hy104
     clear hy104
     replace H:=Option.bind_eq_some_iff.mp H
     obtain ⟨t107,A460,H⟩:=H
     replace H : (some t107) = some r:=H
     have A46:=z1.mk A460
     clear A460
     obtain rfl:=Option.some.inj H
     have hcz47_0 : wr.cell? ⟨gb101,0,none⟩ = some (.int .u64 t102):=(z5 BK101.out 0).trans rfl
     have hcz47_1 : wr.cell? ⟨gb101,1,none⟩ = some (.int .u64 t103):=(z5 BK101.out 1).trans rfl
     have hfz47_0:=z4 BK101.out 0
     have hfz47_1:=z4 BK101.out 1
     go_wp2_with (first|((with_reducible refine z1H (b:=.append) (xs:=#[.tmp 33,.tmp 35]) rfl ?_);at_builtin;refine Kd.z2b k35 (w0:=w0) w0.heap.size rfl (.tmp 33) (.tmp 35) 22 35 (.agg #[(.int .u64 0),(.int .u64 0)]) 16 rfl Try.underlying22 info35 rfl zz85 zz86 u5 x5_1 (⟨t102,t103⟩ : S35) [.int .u64 t102,.int .u64 t103] (fun k_=>(P0_ k_ ∨ w.heap.size ≤ k_) ∧ some k_ ≠ (.slice Ao12 l0.length co12 : Value).ownBlock ∧ k_ ≠ gb101) (fun _=>False) rfl rfl ?aP (fun _ hk=>hk.elim) ?aF ?aO ?aB ?aS ?aL ?_;(case aP=>exact z2g _ _ _ (⟨t102,t103⟩ : S35));(case aB=>exact zz41);(case aF=>exact (fun k_ hk=>⟨(.inr (Nat.le_trans zz30 hk)),Kd.fresh' (Kd.R_lt zz57) k_ hk,Kd.freshB (g:=gb101) (o:=.cells #[.int .u64 t102,.int .u64 t103] 35 (0,0)) zz49 k_ hk⟩));(case aO=>exact zz76);(case aS=>exact (zf zz41));(case aL=>have:=LMc45.out;omega);intro v105 w48 ho hb hg hat;rw [← Ny104.out] at ho;have n0_:=z1.mk (Kd.z4T (ok:=(fun k_=>(P0_ k_ ∨ w.heap.size ≤ k_) ∧ k_ ≠ gb101)) (by (with_reducible repeat (first|apply Kd.zL|apply Kd.zM|apply Kd.zS));exact Kd.z1j HO_15.out (fun _ hk=>⟨⟨hk.1,hk.2.2⟩,hk.2.1⟩)) hg hat);have n1_:=z1.mk (z26 (g:=gb101) (o:=.cells #[.int .u64 t102,.int .u64 t103] 35 (0,0)) zz49 hg (Kd.z2y HO_5.out (fun _ hk=>hk.2.2)));have n2_:=z1.mk (hb);have n3_:=z1.mk (Kept.z3i (S:=(fun k_=>P0_ k_)) hg zz39 (fun k_ e_=>(HO_5.out.1 k_ e_).1));have n4_:=z1.mk (ho);clear HO_15;clear BK101;clear HB;clear HK;clear HO_5;have HO_15:=n0_;have BK101:=n1_;have HB:=n2_;have HK:=n3_;have HO106:=n4_;clear n0_ n1_ n2_ n3_ n4_;clear ho hb hg hat;obtain ⟨Ao49,co49,eo49⟩:=Kd.z1e HO106.out;subst eo49)|((with_reducible refine zo (f:=81) rfl ?_);refine goesL_ (some 38) rfl rfl Try.func81 zz84 rfl #[.slice Ao49 y104.length co49,.func (.func 82) #[] #[]] rfl zz45 ?_;(with_reducible refine (zZ.calls k1 (fun k_=>some k_ = (.slice Ao49 y104.length co49 : Value).ownBlock) (.slice Ao49 y104.length co49) y104 90909082 t107 w0 _ ?side1 ?side2 A46.out).mono ?_);(case side1=>repeat (first|(with_reducible first|exact HB.out|apply zd|apply z3|apply zc|refine za ?_ GE101.out)|exact HB.out));(case side2=>exact Kd.z3q rfl HO106.out);rintro e w50 ⟨rfl,hy0,hb,hkp⟩;refine ⟨_,rfl,?_⟩;have n0_:=z1.mk (Kd.z1j (ok':=fun k_=>(P0_ k_ ∨ w.heap.size ≤ k_) ∧ some k_ ≠ (.slice Ao49 y104.length co49 : Value).ownBlock ∧ k_ ≠ gb101) (Kd.R_keptB (HO_15.out) hkp (fun k_ hk_ hs_=>(hk_.2) hs_)) (fun k_ hk_=>⟨hk_.1.1.1,hk_.1.2,hk_.1.1.2⟩));have n1_:=z1.mk (z58 zz49 hkp (fun hs_=>(fun e_=>(Kd.z2y HO106.out (fun _ hk=>hk.2.2)) e_) hs_));have n2_:=z1.mk (Kd.z5P rfl hy0 (fun k_ e_=>HO106.out.1 k_ e_));have n3_:=z1.mk (Kept.then_ (S:=(fun k_=>P0_ k_)) zz39 hkp (fun k_ hs_=>(fun e_=>(HO106.out.1 k_ e_.symm).1) hs_));have n4_:=z1.mk (hb);clear HO_15;clear BK101;clear HO106;clear HK;clear HB;have HO_15:=n0_;have BK101:=n1_;have HO106:=n2_;have HK:=n3_;have HB:=n4_;clear n0_ n1_ n2_ n3_ n4_;(try clear hb);(try clear hkp);(try clear hy0)))
     go_ret
     exact ⟨_,by first|rfl|(simp [zi,zj] <;> rfl)|(simp [*,zi,zj] <;> rfl),by (with_reducible repeat (first|apply Kd.zL|apply Kd.zM|apply Kd.zS));exact Kd.z1j HO106.out (fun _ hk=>hk.1),by repeat (first|(with_reducible first|exact HB.out|apply zd|apply z3|apply zc|refine za ?_ GE101.out)|exact HB.out),by repeat (first|(with_reducible first|exact HK.out|apply Kept.alloc|apply Kept.drewN|apply Kept.drew|refine Kept.setCell ?_ (.inr GW101.out) _)|exact HK.out)⟩
   rw [if_pos c15] at H
   have c15b0 : decide (x17_1 < (l0.length : Int)) = true:=decide_eq_true c15
   clear c15
   by_cases c16 : 0 ≤ x17_1
   rotate_left
   · rw [if_neg c16] at H
     exact absurd H zz87
   rw [if_pos c16] at H
   have c16b0 : decide (0 ≤ x17_1) = true:=decide_eq_true c16
   clear c16
   by_cases c17 : x17_1 < (l0.length : Int)
   rotate_left
   · rw [if_neg c17] at H
     exact absurd H zz87
   rw [if_pos c17] at H
   have c17b0 : decide (x17_1 < (l0.length : Int)) = true:=decide_eq_true c17
   clear c17
   replace H:=Option.bind_eq_some_iff.mp H
   obtain ⟨t110,A180,H⟩:=H
   replace H : ((z1d.f k1 ((rd_T35 l0 x17_1).f0) ((rd_T35 l0 x17_1).f1) t110).bind fun t111=>(if t111 = true then ((z1t.f ((rd_T35 l0 x17_1).f0) ((rd_T35 l0 x17_1).f1) t102 t103).bind fun bt112=>(if x5_1.length < 8796093022208 then (z1k.l0 k1 (x5_1 ++ [(⟨bt112.1,bt112.2⟩ : S35)]) l0 (l0.length : Int) (wrap64 (x17_1 + 1)) t102 t103) else (none))) else (if x5_1.length < 8796093022208 then (z1k.l0 k1 (x5_1 ++ [(⟨(rd_T35 l0 x17_1).f0,(rd_T35 l0 x17_1).f1⟩ : S35)]) l0 (l0.length : Int) (wrap64 (x17_1 + 1)) t102 t103) else (none)))) = some r:=H
   have A18:=z1.mk A180
   clear A180
   replace H:=Option.bind_eq_some_iff.mp H
   obtain ⟨t111,A190,H⟩:=H
   replace H : (if t111 = true then ((z1t.f ((rd_T35 l0 x17_1).f0) ((rd_T35 l0 x17_1).f1) t102 t103).bind fun bt112=>(if x5_1.length < 8796093022208 then (z1k.l0 k1 (x5_1 ++ [(⟨bt112.1,bt112.2⟩ : S35)]) l0 (l0.length : Int) (wrap64 (x17_1 + 1)) t102 t103) else (none))) else (if x5_1.length < 8796093022208 then (z1k.l0 k1 (x5_1 ++ [(⟨(rd_T35 l0 x17_1).f0,(rd_T35 l0 x17_1).f1⟩ : S35)]) l0 (l0.length : Int) (wrap64 (x17_1 + 1)) t102 t103) else (none))) = some r:=H
   have A19:=z1.mk A190
   clear A190
   by_cases c20 : t111 = true
   rotate_left
   · replace c20:=Bool.eq_false_iff.mpr c20
     subst c20
     have H1 : (if x5_1.length < 8796093022208 then (z1k.l0 k1 (x5_1 ++ [(⟨(rd_T35 l0 x17_1).f0,(rd_T35 l0 x17_1).f1⟩ : S35)]) l0 (l0.length : Int) (wrap64 (x17_1 + 1)) t102 t103) else (none)) = some r:=by rw [if_neg (show ¬ (false = true) by decide)] at H;exact H
     clear H
     have H:=H1
     clear H1
     by_cases c35 : x5_1.length < 8796093022208
     rotate_left
     · rw [if_neg c35] at H
       exact absurd H zz87
     rw [if_pos c35] at H
     have LMc35:=z1.mk c35
     clear c35
     obtain ⟨y117,hy117⟩ : ∃ y_ : List (S35),y_ = (x5_1 ++ [(⟨(rd_T35 l0 x17_1).f0,(rd_T35 l0 x17_1).f1⟩ : S35)]):=⟨_,rfl⟩
     replace H : (z1k.l0 k1 y117 l0 (l0.length : Int) (wrap64 (x17_1 + 1)) t102 t103) = some r:=by first|(rw [hy117];with_reducible exact H)|(have H2_:=(Option.bind_some _ _).symm.trans H;rw [hy117];with_reducible exact H2_)|(have H2_:=(Option.bind_some _ _).symm.trans H;with_reducible exact H2_)|with_reducible exact H|(rw [hy117];exact H)|exact H
     have Ny117:=z1.mk hy117
     clear hy117
     have H':=z1.mk H
     clear H
     have p108 : 0 ≤ (x17_1 : Int):=of_decide_eq_true zz81
     have q108 : x17_1 < (l0.length : Int):=of_decide_eq_true zz81
     obtain ⟨ad108,e108,hx108_0,hx108_1⟩:=z1Q (Kd.zA HO_15.out).2.2 x17_1 p108 q108
     cases e108
     replace p108:=eq_true p108
     replace q108:=eq_true q108
     try go_wp2_with (first|((with_reducible refine zE (N:=7) rfl ?_);refine zC ?hg (N:=7) ?hd (cs:=#[.int .u64 0,.int .u64 0]) (t:=35) ?hr ?_;(case hd=>rfl);(case hg=>rfl);(case hr=>first|(go_simp;done)|(go_simp;rfl));intro gb109 hg w36 hbox hb;have n0_:=z1.mk (Kd.zs (Kd.z1B zz76 gb109 (Nat.le_of_eq hg.symm)) hb);have n1_:=z1.mk (Kd.zs (Kd.z1B zz57 gb109 (Nat.le_of_eq hg.symm)) hb);have n2_:=z1.mk (z9 (g:=gb101) (o:=.cells #[.int .u64 t102,.int .u64 t103] 35 (0,0)) zz49 hb);have n3_:=z1.mk (Kept.below (S:=(fun k_=>P0_ k_)) zz39 hb);have n4_:=z1.mk (ze zz41 hb);have n5_:=z1.mk (hbox);have n6_:=z1.mk ((by rw [hg];exact zz30 : w.heap.size ≤ gb109));have n7_:=z1.mk ((by rw [hg];exact (zf zz41) : w0.heap.size ≤ gb109));have n8_:=z1.mk ((by rw [hg];exact Nat.ne_of_lt (zw (g:=gb101) (o:=.cells #[.int .u64 t102,.int .u64 t103] 35 (0,0)) zz49) : gb101 ≠ gb109));have n9_:=z1.mk ((by rw [hg];exact Nat.ne_of_gt (zw (g:=gb101) (o:=.cells #[.int .u64 t102,.int .u64 t103] 35 (0,0)) zz49) : gb109 ≠ gb101));clear HO_5;clear HO_15;clear BK101;clear HK;clear HB;have HO_5:=n0_;have HO_15:=n1_;have BK101:=n2_;have HK:=n3_;have HB:=n4_;have BK109:=n5_;have GW109:=n6_;have GE109:=n7_;have NB101_109:=n8_;have NB109_101:=n9_;clear n0_ n1_ n2_ n3_ n4_ n5_ n6_ n7_ n8_ n9_;clear hb hbox hg;have hnb37:=NB109_101.out;have hnc37:=NB101_109.out;have hcz38_0 : w36.cell? ⟨gb109,0,none⟩ = some (.int .u64 0):=(z5 BK109.out 0).trans rfl;have hcz38_1 : w36.cell? ⟨gb109,1,none⟩ = some (.int .u64 0):=(z5 BK109.out 1).trans rfl;have hfz38_0:=z4 BK109.out 0;have hfz38_1:=z4 BK109.out 1))
     have n0_ : z1 (Kd.R k35 35 ((w36.setCell ⟨gb109,0,none⟩ (.int .u64 ((rd_T35 l0 x17_1).f0))).setCell ⟨gb109,1,none⟩ (.int .u64 ((rd_T35 l0 x17_1).f1))) w0.heap.size (fun k_=>(P0_ k_ ∨ w.heap.size ≤ k_) ∧ some k_ ≠ (.slice (some ad108) l0.length co12 : Value).ownBlock ∧ k_ ≠ gb101 ∧ k_ ≠ gb109) u5 x5_1):=⟨by (with_reducible repeat (first|apply Kd.zL|apply Kd.zM|apply Kd.zS));exact Kd.z1j (Kd.z1O (p:=⟨gb109,1,none⟩) (Kd.z1O (p:=⟨gb109,0,none⟩) (Kd.z1j HO_5.out (fun k_ hk=>(⟨hk,hk.2⟩ : _ ∧ k_ ≠ gb109))) (fun _ hk=>hk.2) (.int .u64 ((rd_T35 l0 x17_1).f0))) (fun _ hk=>hk.2) (.int .u64 ((rd_T35 l0 x17_1).f1))) (fun _ hk=>⟨hk.1.1.1,⟨hk.1.1.2.1,⟨hk.1.1.2.2,hk.1.2⟩⟩⟩)⟩
     have n1_ : z1 (Kd.R k35 35 ((w36.setCell ⟨gb109,0,none⟩ (.int .u64 ((rd_T35 l0 x17_1).f0))).setCell ⟨gb109,1,none⟩ (.int .u64 ((rd_T35 l0 x17_1).f1))) w0.heap.size (fun k_=>(P0_ k_ ∨ w.heap.size ≤ k_) ∧ some k_ ≠ (u5 : Value).ownBlock ∧ k_ ≠ gb101 ∧ k_ ≠ gb109) (.slice (some ad108) l0.length co12) l0):=⟨by (with_reducible repeat (first|apply Kd.zL|apply Kd.zM|apply Kd.zS));exact Kd.z1j (Kd.z1O (p:=⟨gb109,1,none⟩) (Kd.z1O (p:=⟨gb109,0,none⟩) (Kd.z1j HO_15.out (fun k_ hk=>(⟨hk,hk.2⟩ : _ ∧ k_ ≠ gb109))) (fun _ hk=>hk.2) (.int .u64 ((rd_T35 l0 x17_1).f0))) (fun _ hk=>hk.2) (.int .u64 ((rd_T35 l0 x17_1).f1))) (fun _ hk=>⟨hk.1.1.1,⟨hk.1.1.2.1,⟨hk.1.1.2.2,hk.1.2⟩⟩⟩)⟩
     have n2_ : z1 (((w36.setCell ⟨gb109,0,none⟩ (.int .u64 ((rd_T35 l0 x17_1).f0))).setCell ⟨gb109,1,none⟩ (.int .u64 ((rd_T35 l0 x17_1).f1))).heap[gb101]? = some (.cells #[.int .u64 t102,.int .u64 t103] 35 (0,0))):=⟨by (with_reducible repeat (first|refine z8 ?_ _|refine zb ?_|refine z7 ?_ _));refine zP ?_ NB101_109.out _;(with_reducible repeat (first|refine z8 ?_ _|refine zb ?_|refine z7 ?_ _));refine zP ?_ NB101_109.out _;(with_reducible repeat (first|refine z8 ?_ _|refine zb ?_|refine z7 ?_ _));exact BK101.out⟩
     have n3_ : z1 (((w36.setCell ⟨gb109,0,none⟩ (.int .u64 ((rd_T35 l0 x17_1).f0))).setCell ⟨gb109,1,none⟩ (.int .u64 ((rd_T35 l0 x17_1).f1))).heap[gb109]? = some (.cells #[.int .u64 ((rd_T35 l0 x17_1).f0),.int .u64 ((rd_T35 l0 x17_1).f1)] 35 (0,0))):=⟨by (with_reducible repeat (first|refine z8 ?_ _|refine zb ?_|refine z7 ?_ _));refine zT (cs:=#[.int .u64 ((rd_T35 l0 x17_1).f0),.int .u64 0]) ?_ 1 _ rfl;(with_reducible repeat (first|refine z8 ?_ _|refine zb ?_|refine z7 ?_ _));refine zT (cs:=#[.int .u64 0,.int .u64 0]) ?_ 0 _ rfl;(with_reducible repeat (first|refine z8 ?_ _|refine zb ?_|refine z7 ?_ _));exact BK109.out⟩
     have n4_ : z1 (Kept w ((w36.setCell ⟨gb109,0,none⟩ (.int .u64 ((rd_T35 l0 x17_1).f0))).setCell ⟨gb109,1,none⟩ (.int .u64 ((rd_T35 l0 x17_1).f1))) (fun k_=>P0_ k_)):=⟨by repeat (first|(with_reducible first|exact HK.out|apply Kept.alloc|apply Kept.drewN|apply Kept.drew|refine Kept.setCell ?_ (.inr GW101.out) _|refine Kept.setCell ?_ (.inr GW109.out) _)|exact HK.out)⟩
     have n5_ : z1 (Below w0.heap.size w0 ((w36.setCell ⟨gb109,0,none⟩ (.int .u64 ((rd_T35 l0 x17_1).f0))).setCell ⟨gb109,1,none⟩ (.int .u64 ((rd_T35 l0 x17_1).f1)))):=⟨by repeat (first|(with_reducible first|exact HB.out|apply zd|apply z3|apply zc|refine za ?_ GE101.out|refine za ?_ GE109.out)|exact HB.out)⟩
     (try clear HO_5)
     (try clear HO_15)
     (try clear BK101)
     (try clear BK109)
     (try clear HK)
     (try clear HB)
     generalize ((w36.setCell ⟨gb109,0,none⟩ (.int .u64 ((rd_T35 l0 x17_1).f0))).setCell ⟨gb109,1,none⟩ (.int .u64 ((rd_T35 l0 x17_1).f1))) = w39 at n0_ n1_ n2_ n3_ n4_ n5_ ⊢
     have HO_5:=n0_
     have HO_15:=n1_
     have BK101:=n2_
     have BK109:=n3_
     have HK:=n4_
     have HB:=n5_
     clear n0_ n1_ n2_ n3_ n4_ n5_
     have n0_:=z1.mk (Kd.zS HO_5.out)
     have n1_:=z1.mk (Kd.zS HO_15.out)
     have n2_:=z1.mk (zb BK101.out)
     have n3_:=z1.mk (zb BK109.out)
     have n4_:=z1.mk (Kept.drew HK.out)
     have n5_:=z1.mk (zc HB.out)
     clear HO_5
     clear HO_15
     clear BK101
     clear BK109
     clear HK
     clear HB
     have HO_5:=n0_
     have HO_15:=n1_
     have BK101:=n2_
     have BK109:=n3_
     have HK:=n4_
     have HB:=n5_
     clear n0_ n1_ n2_ n3_ n4_ n5_
     refine start_ (n:=4) (S:=fun w'=>w'.cell? ⟨gb109,0,none⟩ = some (.int .u64 ((rd_T35 l0 x17_1).f0)) ∧ w'.cell? ⟨gb109,1,none⟩ = some (.int .u64 ((rd_T35 l0 x17_1).f1)) ∧ w'.cell? ⟨gb101,0,none⟩ = some (.int .u64 t102) ∧ w'.cell? ⟨gb101,1,none⟩ = some (.int .u64 t103)) (ds:=[]) #[false,false,false,false] zz84 rfl rfl ⟨(z5 BK109.out 0).trans rfl,(z5 BK109.out 1).trans rfl,(z5 BK101.out 0).trans rfl,(z5 BK101.out 1).trans rfl⟩ (fun hHeld=>?_)
     generalize w39.drew = w40 at HO_5 HO_15 BK101 BK109 HK HB hHeld ⊢
     refine take_ (i:=0) (N:=some 21) (v:=?_) (a':=?_) #[true,false,false,false] rfl rfl zz84 (fun _ _ _ h=>h) (Or.inl ⟨by rfl,?_⟩) hHeld ?_ ?_
     rotate_left
     · rintro w' ⟨s0,s1,s2,s3⟩
       go_simp
       with_reducible rfl
     rotate_left
     · simp only [Act.put,List.setIfInBounds_toArray,List.set_cons_zero,List.set_cons_succ,zH,zI]
       rfl
     refine take_ (i:=1) (N:=some 22) (v:=?_) (a':=?_) #[true,true,false,false] rfl rfl zz84 (fun _ _ _ h=>h) (Or.inl ⟨by rfl,?_⟩) hHeld ?_ ?_
     rotate_left
     · rintro w' ⟨s0,s1,s2,s3⟩
       go_simp
       with_reducible rfl
     rotate_left
     · simp only [Act.put,List.setIfInBounds_toArray,List.set_cons_zero,List.set_cons_succ,zH,zI]
       rfl
     refine one_ (i:=2) (N:=some 23) #[true,true,true,false] rfl rfl zz84 zz85 (fun K hK=>?_)
     refine goes_ Try.func49 zz84 rfl #[.agg #[.int .u64 t102,.int .u64 t103]] zz88 rfl rfl zz45 ?_
     with_reducible refine (z14.calls k1 t102 t103 t110 _ A18.out).mono ?_
     rintro e w41 ⟨rfl,hb⟩
     refine ⟨_,rfl,?_⟩
     have n0_:=z1.mk (Kd.zs zz76 hb)
     have n1_:=z1.mk (Kd.zs zz57 hb)
     have n2_:=z1.mk (z9 (g:=gb101) (o:=.cells #[.int .u64 t102,.int .u64 t103] 35 (0,0)) zz49 hb)
     have n3_:=z1.mk (z9 (g:=gb109) (o:=.cells #[.int .u64 ((rd_T35 l0 x17_1).f0),.int .u64 ((rd_T35 l0 x17_1).f1)] 35 (0,0)) zz53 hb)
     have n4_:=z1.mk (Kept.below (S:=(fun k_=>P0_ k_)) zz34 hb)
     have n5_:=z1.mk (ze zz37 hb)
     clear HO_5
     clear HO_15
     clear BK101
     clear BK109
     clear HK
     clear HB
     have HO_5:=n0_
     have HO_15:=n1_
     have BK101:=n2_
     have BK109:=n3_
     have HK:=n4_
     have HB:=n5_
     clear n0_ n1_ n2_ n3_ n4_ n5_
     (try clear hb)
     (try clear hb2)
     (try clear hk)
     (try clear hi)
     refine hK.out _ _ ⟨(z5 BK109.out 0).trans rfl,(z5 BK109.out 1).trans rfl,(z5 BK101.out 0).trans rfl,(z5 BK101.out 1).trans rfl⟩ (fun hHeld=>?_)
     clear hK K
     refine norm_ (a':=?_) ?_ ?_
     rotate_left
     · show Act.put _ (some 23) _ = _
       simp only [Act.put,List.setIfInBounds_toArray,List.set_cons_zero,List.set_cons_succ,zH,zI]
       rfl
     refine one_ (i:=3) (N:=some 24) #[true,true,true,true] rfl rfl zz84 zz85 (fun K hK=>?_)
     refine goes_ Try.func44 zz84 rfl #[.agg #[.int .u64 ((rd_T35 l0 x17_1).f0),.int .u64 ((rd_T35 l0 x17_1).f1)],.int .i64 t110] zz88 rfl rfl zz45 ?_
     with_reducible refine (z1d.calls k1 ((rd_T35 l0 x17_1).f0) ((rd_T35 l0 x17_1).f1) t110 false _ A19.out).mono ?_
     rintro e w42 ⟨rfl,hb⟩
     refine ⟨_,rfl,?_⟩
     have n0_:=z1.mk (Kd.zs zz76 hb)
     have n1_:=z1.mk (Kd.zs zz57 hb)
     have n2_:=z1.mk (z9 (g:=gb101) (o:=.cells #[.int .u64 t102,.int .u64 t103] 35 (0,0)) zz49 hb)
     have n3_:=z1.mk (z9 (g:=gb109) (o:=.cells #[.int .u64 ((rd_T35 l0 x17_1).f0),.int .u64 ((rd_T35 l0 x17_1).f1)] 35 (0,0)) zz53 hb)
     have n4_:=z1.mk (Kept.below (S:=(fun k_=>P0_ k_)) zz34 hb)
     have n5_:=z1.mk (ze zz37 hb)
     clear HO_5
     clear HO_15
     clear BK101
     clear BK109
     clear HK
     clear HB
     have HO_5:=n0_
     have HO_15:=n1_
     have BK101:=n2_
     have BK109:=n3_
     have HK:=n4_
     have HB:=n5_
     clear n0_ n1_ n2_ n3_ n4_ n5_
     (try clear hb)
     (try clear hb2)
     (try clear hk)
     (try clear hi)
     refine hK.out _ _ ⟨(z5 BK109.out 0).trans rfl,(z5 BK109.out 1).trans rfl,(z5 BK101.out 0).trans rfl,(z5 BK101.out 1).trans rfl⟩ (fun hHeld=>?_)
     clear hK K
     refine norm_ (a':=?_) ?_ ?_
     rotate_left
     · show Act.put _ (some 24) _ = _
       simp only [Act.put,List.setIfInBounds_toArray,List.set_cons_zero,List.set_cons_succ,zH,zI]
       rfl
     refine done_ zz84 ?_
     have hcz43_0 : w42.cell? ⟨gb109,0,none⟩ = some (.int .u64 ((rd_T35 l0 x17_1).f0)):=(z5 BK109.out 0).trans rfl
     have hcz43_1 : w42.cell? ⟨gb109,1,none⟩ = some (.int .u64 ((rd_T35 l0 x17_1).f1)):=(z5 BK109.out 1).trans rfl
     have hfz43_0:=z4 BK109.out 0
     have hfz43_1:=z4 BK109.out 1
     try go_wp2_with (first|((with_reducible refine z1H (b:=.append) (xs:=#[.tmp 28,.tmp 30]) rfl ?_);at_builtin;refine Kd.z2b k35 (w0:=w0) w0.heap.size rfl (.tmp 28) (.tmp 30) 22 35 (.agg #[(.int .u64 0),(.int .u64 0)]) 16 rfl Try.underlying22 info35 rfl zz85 zz86 u5 x5_1 (⟨(rd_T35 l0 x17_1).f0,(rd_T35 l0 x17_1).f1⟩ : S35) [.int .u64 ((rd_T35 l0 x17_1).f0),.int .u64 ((rd_T35 l0 x17_1).f1)] (fun k_=>(P0_ k_ ∨ w.heap.size ≤ k_) ∧ some k_ ≠ (.slice (some ad108) l0.length co12 : Value).ownBlock ∧ k_ ≠ gb101 ∧ k_ ≠ gb109) (fun _=>False) rfl rfl ?aP (fun _ hk=>hk.elim) ?aF ?aO ?aB ?aS ?aL ?_;(case aP=>exact z2g _ _ _ (⟨(rd_T35 l0 x17_1).f0,(rd_T35 l0 x17_1).f1⟩ : S35));(case aB=>exact zz37);(case aF=>exact (fun k_ hk=>⟨(.inr (Nat.le_trans (by first|exact HK.out.1|exact (show Kept w _ (fun k_=>P0_ k_) from by repeat (first|(with_reducible first|exact HK.out|apply Kept.alloc|apply Kept.drewN|apply Kept.drew|refine Kept.setCell ?_ (.inr GW101.out) _|refine Kept.setCell ?_ (.inr GW109.out) _)|exact HK.out)).1) hk)),Kd.fresh' (Kd.R_lt zz57) k_ hk,Kd.freshB (g:=gb101) (o:=.cells #[.int .u64 t102,.int .u64 t103] 35 (0,0)) zz49 k_ hk,Kd.freshB (g:=gb109) (o:=.cells #[.int .u64 ((rd_T35 l0 x17_1).f0),.int .u64 ((rd_T35 l0 x17_1).f1)] 35 (0,0)) zz53 k_ hk⟩));(case aO=>exact zz76);(case aS=>exact (zf zz37));(case aL=>have:=LMc35.out;omega);intro v118 w44 ho hb hg hat;rw [← Ny117.out] at ho;have n0_:=z1.mk (Kd.z4T (ok:=(fun k_=>(P0_ k_ ∨ w.heap.size ≤ k_) ∧ k_ ≠ gb101 ∧ k_ ≠ gb109)) (by (with_reducible repeat (first|apply Kd.zL|apply Kd.zM|apply Kd.zS));exact Kd.z1j HO_15.out (fun _ hk=>⟨⟨hk.1,⟨hk.2.2.1,hk.2.2.2⟩⟩,hk.2.1⟩)) hg hat);have n1_:=z1.mk (z26 (g:=gb101) (o:=.cells #[.int .u64 t102,.int .u64 t103] 35 (0,0)) zz49 hg (Kd.z2y HO_5.out (fun _ hk=>hk.2.2.1)));have n2_:=z1.mk (z26 (g:=gb109) (o:=.cells #[.int .u64 ((rd_T35 l0 x17_1).f0),.int .u64 ((rd_T35 l0 x17_1).f1)] 35 (0,0)) zz53 hg (Kd.z2y HO_5.out (fun _ hk=>hk.2.2.2)));have n3_:=z1.mk (hb);have n4_:=z1.mk (Kept.z3i (S:=(fun k_=>P0_ k_)) hg zz34 (fun k_ e_=>(HO_5.out.1 k_ e_).1));have n5_:=z1.mk (ho);clear HO_15;clear BK101;clear BK109;clear HB;clear HK;clear HO_5;have HO_15:=n0_;have BK101:=n1_;have BK109:=n2_;have HB:=n3_;have HK:=n4_;have HO119:=n5_;clear n0_ n1_ n2_ n3_ n4_ n5_;clear ho hb hg hat))
     go_roundg k1
     case measure=>have:=HK1.out;omega
     case rel=>exact ⟨(y117),(wrap64 (x17_1 + 1)),zz82,H',⟨by have:=HK1.out;omega⟩,⟨by (with_reducible repeat (first|apply Kd.zL|apply Kd.zM|apply Kd.zS));exact Kd.z1j HO119.out (fun _ hk=>⟨hk.1,⟨hk.2.1,hk.2.2.1⟩⟩)⟩,⟨by (with_reducible repeat (first|apply Kd.zL|apply Kd.zM|apply Kd.zS));exact Kd.z1j HO_15.out (fun _ hk=>⟨hk.1.1,⟨hk.2,hk.1.2.1⟩⟩)⟩,⟨by (with_reducible repeat (first|refine z8 ?_ _|refine zb ?_|refine z7 ?_ _));exact BK101.out⟩,⟨by repeat (first|(with_reducible first|exact HK.out|apply Kept.alloc|apply Kept.drewN|apply Kept.drew|refine Kept.setCell ?_ (.inr GW101.out) _|refine Kept.setCell ?_ (.inr GW109.out) _)|exact HK.out)⟩,⟨by repeat (first|(with_reducible first|exact HB.out|apply zd|apply z3|apply zc|refine za ?_ GE101.out|refine za ?_ GE109.out)|exact HB.out)⟩⟩
   subst c20
   have H1 : ((z1t.f ((rd_T35 l0 x17_1).f0) ((rd_T35 l0 x17_1).f1) t102 t103).bind fun bt112=>(if x5_1.length < 8796093022208 then (z1k.l0 k1 (x5_1 ++ [(⟨bt112.1,bt112.2⟩ : S35)]) l0 (l0.length : Int) (wrap64 (x17_1 + 1)) t102 t103) else (none))) = some r:=by rw [if_pos rfl] at H;exact H
   clear H
   have H:=H1
   clear H1
   replace H:=Option.bind_eq_some_iff.mp H
   obtain ⟨⟨t112,t113⟩,A210,H⟩:=H
   replace H : (if x5_1.length < 8796093022208 then (z1k.l0 k1 (x5_1 ++ [(⟨t112,t113⟩ : S35)]) l0 (l0.length : Int) (wrap64 (x17_1 + 1)) t102 t103) else (none)) = some r:=H
   have A21:=z1.mk A210
   clear A210
   by_cases c22 : x5_1.length < 8796093022208
   rotate_left
   · rw [if_neg c22] at H
     exact absurd H zz87
   rw [if_pos c22] at H
   have LMc22:=z1.mk c22
   clear c22
   obtain ⟨y114,hy114⟩ : ∃ y_ : List (S35),y_ = (x5_1 ++ [(⟨t112,t113⟩ : S35)]):=⟨_,rfl⟩
   replace H : (z1k.l0 k1 y114 l0 (l0.length : Int) (wrap64 (x17_1 + 1)) t102 t103) = some r:=by first|(rw [hy114];with_reducible exact H)|(have H2_:=(Option.bind_some _ _).symm.trans H;rw [hy114];with_reducible exact H2_)|(have H2_:=(Option.bind_some _ _).symm.trans H;with_reducible exact H2_)|with_reducible exact H|(rw [hy114];exact H)|exact H
   have Ny114:=z1.mk hy114
   clear hy114
   have H':=z1.mk H
   clear H
   have p108 : 0 ≤ (x17_1 : Int):=of_decide_eq_true zz81
   have q108 : x17_1 < (l0.length : Int):=of_decide_eq_true zz81
   obtain ⟨ad108,e108,hx108_0,hx108_1⟩:=z1Q (Kd.zA HO_15.out).2.2 x17_1 p108 q108
   cases e108
   replace p108:=eq_true p108
   replace q108:=eq_true q108
   try go_wp2_with (first|((with_reducible refine zE (N:=7) rfl ?_);refine zC ?hg (N:=7) ?hd (cs:=#[.int .u64 0,.int .u64 0]) (t:=35) ?hr ?_;(case hd=>rfl);(case hg=>rfl);(case hr=>first|(go_simp;done)|(go_simp;rfl));intro gb109 hg w23 hbox hb;have n0_:=z1.mk (Kd.zs (Kd.z1B zz76 gb109 (Nat.le_of_eq hg.symm)) hb);have n1_:=z1.mk (Kd.zs (Kd.z1B zz57 gb109 (Nat.le_of_eq hg.symm)) hb);have n2_:=z1.mk (z9 (g:=gb101) (o:=.cells #[.int .u64 t102,.int .u64 t103] 35 (0,0)) zz49 hb);have n3_:=z1.mk (Kept.below (S:=(fun k_=>P0_ k_)) zz39 hb);have n4_:=z1.mk (ze zz41 hb);have n5_:=z1.mk (hbox);have n6_:=z1.mk ((by rw [hg];exact zz30 : w.heap.size ≤ gb109));have n7_:=z1.mk ((by rw [hg];exact (zf zz41) : w0.heap.size ≤ gb109));have n8_:=z1.mk ((by rw [hg];exact Nat.ne_of_lt (zw (g:=gb101) (o:=.cells #[.int .u64 t102,.int .u64 t103] 35 (0,0)) zz49) : gb101 ≠ gb109));have n9_:=z1.mk ((by rw [hg];exact Nat.ne_of_gt (zw (g:=gb101) (o:=.cells #[.int .u64 t102,.int .u64 t103] 35 (0,0)) zz49) : gb109 ≠ gb101));clear HO_5;clear HO_15;clear BK101;clear HK;clear HB;have HO_5:=n0_;have HO_15:=n1_;have BK101:=n2_;have HK:=n3_;have HB:=n4_;have BK109:=n5_;have GW109:=n6_;have GE109:=n7_;have NB101_109:=n8_;have NB109_101:=n9_;clear n0_ n1_ n2_ n3_ n4_ n5_ n6_ n7_ n8_ n9_;clear hb hbox hg;have hnb24:=NB109_101.out;have hnc24:=NB101_109.out;have hcz25_0 : w23.cell? ⟨gb109,0,none⟩ = some (.int .u64 0):=(z5 BK109.out 0).trans rfl;have hcz25_1 : w23.cell? ⟨gb109,1,none⟩ = some (.int .u64 0):=(z5 BK109.out 1).trans rfl;have hfz25_0:=z4 BK109.out 0;have hfz25_1:=z4 BK109.out 1))
   have n0_ : z1 (Kd.R k35 35 ((w23.setCell ⟨gb109,0,none⟩ (.int .u64 ((rd_T35 l0 x17_1).f0))).setCell ⟨gb109,1,none⟩ (.int .u64 ((rd_T35 l0 x17_1).f1))) w0.heap.size (fun k_=>(P0_ k_ ∨ w.heap.size ≤ k_) ∧ some k_ ≠ (.slice (some ad108) l0.length co12 : Value).ownBlock ∧ k_ ≠ gb101 ∧ k_ ≠ gb109) u5 x5_1):=⟨by (with_reducible repeat (first|apply Kd.zL|apply Kd.zM|apply Kd.zS));exact Kd.z1j (Kd.z1O (p:=⟨gb109,1,none⟩) (Kd.z1O (p:=⟨gb109,0,none⟩) (Kd.z1j HO_5.out (fun k_ hk=>(⟨hk,hk.2⟩ : _ ∧ k_ ≠ gb109))) (fun _ hk=>hk.2) (.int .u64 ((rd_T35 l0 x17_1).f0))) (fun _ hk=>hk.2) (.int .u64 ((rd_T35 l0 x17_1).f1))) (fun _ hk=>⟨hk.1.1.1,⟨hk.1.1.2.1,⟨hk.1.1.2.2,hk.1.2⟩⟩⟩)⟩
   have n1_ : z1 (Kd.R k35 35 ((w23.setCell ⟨gb109,0,none⟩ (.int .u64 ((rd_T35 l0 x17_1).f0))).setCell ⟨gb109,1,none⟩ (.int .u64 ((rd_T35 l0 x17_1).f1))) w0.heap.size (fun k_=>(P0_ k_ ∨ w.heap.size ≤ k_) ∧ some k_ ≠ (u5 : Value).ownBlock ∧ k_ ≠ gb101 ∧ k_ ≠ gb109) (.slice (some ad108) l0.length co12) l0):=⟨by (with_reducible repeat (first|apply Kd.zL|apply Kd.zM|apply Kd.zS));exact Kd.z1j (Kd.z1O (p:=⟨gb109,1,none⟩) (Kd.z1O (p:=⟨gb109,0,none⟩) (Kd.z1j HO_15.out (fun k_ hk=>(⟨hk,hk.2⟩ : _ ∧ k_ ≠ gb109))) (fun _ hk=>hk.2) (.int .u64 ((rd_T35 l0 x17_1).f0))) (fun _ hk=>hk.2) (.int .u64 ((rd_T35 l0 x17_1).f1))) (fun _ hk=>⟨hk.1.1.1,⟨hk.1.1.2.1,⟨hk.1.1.2.2,hk.1.2⟩⟩⟩)⟩
   have n2_ : z1 (((w23.setCell ⟨gb109,0,none⟩ (.int .u64 ((rd_T35 l0 x17_1).f0))).setCell ⟨gb109,1,none⟩ (.int .u64 ((rd_T35 l0 x17_1).f1))).heap[gb101]? = some (.cells #[.int .u64 t102,.int .u64 t103] 35 (0,0))):=⟨by (with_reducible repeat (first|refine z8 ?_ _|refine zb ?_|refine z7 ?_ _));refine zP ?_ NB101_109.out _;(with_reducible repeat (first|refine z8 ?_ _|refine zb ?_|refine z7 ?_ _));refine zP ?_ NB101_109.out _;(with_reducible repeat (first|refine z8 ?_ _|refine zb ?_|refine z7 ?_ _));exact BK101.out⟩
   have n3_ : z1 (((w23.setCell ⟨gb109,0,none⟩ (.int .u64 ((rd_T35 l0 x17_1).f0))).setCell ⟨gb109,1,none⟩ (.int .u64 ((rd_T35 l0 x17_1).f1))).heap[gb109]? = some (.cells #[.int .u64 ((rd_T35 l0 x17_1).f0),.int .u64 ((rd_T35 l0 x17_1).f1)] 35 (0,0))):=⟨by (with_reducible repeat (first|refine z8 ?_ _|refine zb ?_|refine z7 ?_ _));refine zT (cs:=#[.int .u64 ((rd_T35 l0 x17_1).f0),.int .u64 0]) ?_ 1 _ rfl;(with_reducible repeat (first|refine z8 ?_ _|refine zb ?_|refine z7 ?_ _));refine zT (cs:=#[.int .u64 0,.int .u64 0]) ?_ 0 _ rfl;(with_reducible repeat (first|refine z8 ?_ _|refine zb ?_|refine z7 ?_ _));exact BK109.out⟩
   have n4_ : z1 (Kept w ((w23.setCell ⟨gb109,0,none⟩ (.int .u64 ((rd_T35 l0 x17_1).f0))).setCell ⟨gb109,1,none⟩ (.int .u64 ((rd_T35 l0 x17_1).f1))) (fun k_=>P0_ k_)):=⟨by repeat (first|(with_reducible first|exact HK.out|apply Kept.alloc|apply Kept.drewN|apply Kept.drew|refine Kept.setCell ?_ (.inr GW101.out) _|refine Kept.setCell ?_ (.inr GW109.out) _)|exact HK.out)⟩
   have n5_ : z1 (Below w0.heap.size w0 ((w23.setCell ⟨gb109,0,none⟩ (.int .u64 ((rd_T35 l0 x17_1).f0))).setCell ⟨gb109,1,none⟩ (.int .u64 ((rd_T35 l0 x17_1).f1)))):=⟨by repeat (first|(with_reducible first|exact HB.out|apply zd|apply z3|apply zc|refine za ?_ GE101.out|refine za ?_ GE109.out)|exact HB.out)⟩
   (try clear HO_5)
   (try clear HO_15)
   (try clear BK101)
   (try clear BK109)
   (try clear HK)
   (try clear HB)
   generalize ((w23.setCell ⟨gb109,0,none⟩ (.int .u64 ((rd_T35 l0 x17_1).f0))).setCell ⟨gb109,1,none⟩ (.int .u64 ((rd_T35 l0 x17_1).f1))) = w26 at n0_ n1_ n2_ n3_ n4_ n5_ ⊢
   have HO_5:=n0_
   have HO_15:=n1_
   have BK101:=n2_
   have BK109:=n3_
   have HK:=n4_
   have HB:=n5_
   clear n0_ n1_ n2_ n3_ n4_ n5_
   have n0_:=z1.mk (Kd.zS HO_5.out)
   have n1_:=z1.mk (Kd.zS HO_15.out)
   have n2_:=z1.mk (zb BK101.out)
   have n3_:=z1.mk (zb BK109.out)
   have n4_:=z1.mk (Kept.drew HK.out)
   have n5_:=z1.mk (zc HB.out)
   clear HO_5
   clear HO_15
   clear BK101
   clear BK109
   clear HK
   clear HB
   have HO_5:=n0_
   have HO_15:=n1_
   have BK101:=n2_
   have BK109:=n3_
   have HK:=n4_
   have HB:=n5_
   clear n0_ n1_ n2_ n3_ n4_ n5_
   refine start_ (n:=4) (S:=fun w'=>w'.cell? ⟨gb109,0,none⟩ = some (.int .u64 ((rd_T35 l0 x17_1).f0)) ∧ w'.cell? ⟨gb109,1,none⟩ = some (.int .u64 ((rd_T35 l0 x17_1).f1)) ∧ w'.cell? ⟨gb101,0,none⟩ = some (.int .u64 t102) ∧ w'.cell? ⟨gb101,1,none⟩ = some (.int .u64 t103)) (ds:=[]) #[false,false,false,false] zz84 rfl rfl ⟨(z5 BK109.out 0).trans rfl,(z5 BK109.out 1).trans rfl,(z5 BK101.out 0).trans rfl,(z5 BK101.out 1).trans rfl⟩ (fun hHeld=>?_)
   generalize w26.drew = w27 at HO_5 HO_15 BK101 BK109 HK HB hHeld ⊢
   refine take_ (i:=0) (N:=some 21) (v:=?_) (a':=?_) #[true,false,false,false] rfl rfl zz84 (fun _ _ _ h=>h) (Or.inl ⟨by rfl,?_⟩) hHeld ?_ ?_
   rotate_left
   · rintro w' ⟨s0,s1,s2,s3⟩
     go_simp
     with_reducible rfl
   rotate_left
   · simp only [Act.put,List.setIfInBounds_toArray,List.set_cons_zero,List.set_cons_succ,zH,zI]
     rfl
   refine take_ (i:=1) (N:=some 22) (v:=?_) (a':=?_) #[true,true,false,false] rfl rfl zz84 (fun _ _ _ h=>h) (Or.inl ⟨by rfl,?_⟩) hHeld ?_ ?_
   rotate_left
   · rintro w' ⟨s0,s1,s2,s3⟩
     go_simp
     with_reducible rfl
   rotate_left
   · simp only [Act.put,List.setIfInBounds_toArray,List.set_cons_zero,List.set_cons_succ,zH,zI]
     rfl
   refine one_ (i:=2) (N:=some 23) #[true,true,true,false] rfl rfl zz84 zz85 (fun K hK=>?_)
   refine goes_ Try.func49 zz84 rfl #[.agg #[.int .u64 t102,.int .u64 t103]] zz88 rfl rfl zz45 ?_
   with_reducible refine (z14.calls k1 t102 t103 t110 _ A18.out).mono ?_
   rintro e w28 ⟨rfl,hb⟩
   refine ⟨_,rfl,?_⟩
   have n0_:=z1.mk (Kd.zs zz76 hb)
   have n1_:=z1.mk (Kd.zs zz57 hb)
   have n2_:=z1.mk (z9 (g:=gb101) (o:=.cells #[.int .u64 t102,.int .u64 t103] 35 (0,0)) zz49 hb)
   have n3_:=z1.mk (z9 (g:=gb109) (o:=.cells #[.int .u64 ((rd_T35 l0 x17_1).f0),.int .u64 ((rd_T35 l0 x17_1).f1)] 35 (0,0)) zz53 hb)
   have n4_:=z1.mk (Kept.below (S:=(fun k_=>P0_ k_)) zz34 hb)
   have n5_:=z1.mk (ze zz37 hb)
   clear HO_5
   clear HO_15
   clear BK101
   clear BK109
   clear HK
   clear HB
   have HO_5:=n0_
   have HO_15:=n1_
   have BK101:=n2_
   have BK109:=n3_
   have HK:=n4_
   have HB:=n5_
   clear n0_ n1_ n2_ n3_ n4_ n5_
   (try clear hb)
   (try clear hb2)
   (try clear hk)
   (try clear hi)
   refine hK.out _ _ ⟨(z5 BK109.out 0).trans rfl,(z5 BK109.out 1).trans rfl,(z5 BK101.out 0).trans rfl,(z5 BK101.out 1).trans rfl⟩ (fun hHeld=>?_)
   clear hK K
   refine norm_ (a':=?_) ?_ ?_
   rotate_left
   · show Act.put _ (some 23) _ = _
     simp only [Act.put,List.setIfInBounds_toArray,List.set_cons_zero,List.set_cons_succ,zH,zI]
     rfl
   refine one_ (i:=3) (N:=some 24) #[true,true,true,true] rfl rfl zz84 zz85 (fun K hK=>?_)
   refine goes_ Try.func44 zz84 rfl #[.agg #[.int .u64 ((rd_T35 l0 x17_1).f0),.int .u64 ((rd_T35 l0 x17_1).f1)],.int .i64 t110] zz88 rfl rfl zz45 ?_
   with_reducible refine (z1d.calls k1 ((rd_T35 l0 x17_1).f0) ((rd_T35 l0 x17_1).f1) t110 true _ A19.out).mono ?_
   rintro e w29 ⟨rfl,hb⟩
   refine ⟨_,rfl,?_⟩
   have n0_:=z1.mk (Kd.zs zz76 hb)
   have n1_:=z1.mk (Kd.zs zz57 hb)
   have n2_:=z1.mk (z9 (g:=gb101) (o:=.cells #[.int .u64 t102,.int .u64 t103] 35 (0,0)) zz49 hb)
   have n3_:=z1.mk (z9 (g:=gb109) (o:=.cells #[.int .u64 ((rd_T35 l0 x17_1).f0),.int .u64 ((rd_T35 l0 x17_1).f1)] 35 (0,0)) zz53 hb)
   have n4_:=z1.mk (Kept.below (S:=(fun k_=>P0_ k_)) zz34 hb)
   have n5_:=z1.mk (ze zz37 hb)
   clear HO_5
   clear HO_15
   clear BK101
   clear BK109
   clear HK
   clear HB
   have HO_5:=n0_
   have HO_15:=n1_
   have BK101:=n2_
   have BK109:=n3_
   have HK:=n4_
   have HB:=n5_
   clear n0_ n1_ n2_ n3_ n4_ n5_
   (try clear hb)
   (try clear hb2)
   (try clear hk)
   (try clear hi)
   refine hK.out _ _ ⟨(z5 BK109.out 0).trans rfl,(z5 BK109.out 1).trans rfl,(z5 BK101.out 0).trans rfl,(z5 BK101.out 1).trans rfl⟩ (fun hHeld=>?_)
   clear hK K
   refine norm_ (a':=?_) ?_ ?_
   rotate_left
   · show Act.put _ (some 24) _ = _
     simp only [Act.put,List.setIfInBounds_toArray,List.set_cons_zero,List.set_cons_succ,zH,zI]
     rfl
   refine done_ zz84 ?_
   have hcz30_0 : w29.cell? ⟨gb109,0,none⟩ = some (.int .u64 ((rd_T35 l0 x17_1).f0)):=(z5 BK109.out 0).trans rfl
   have hcz30_1 : w29.cell? ⟨gb109,1,none⟩ = some (.int .u64 ((rd_T35 l0 x17_1).f1)):=(z5 BK109.out 1).trans rfl
   have hfz30_0:=z4 BK109.out 0
   have hfz30_1:=z4 BK109.out 1
   have hcz31_0 : w29.cell? ⟨gb101,0,none⟩ = some (.int .u64 t102):=(z5 BK101.out 0).trans rfl
   have hcz31_1 : w29.cell? ⟨gb101,1,none⟩ = some (.int .u64 t103):=(z5 BK101.out 1).trans rfl
   have hfz31_0:=z4 BK101.out 0
   have hfz31_1:=z4 BK101.out 1
   try go_wp2_with (first|((with_reducible refine zo (f:=23) rfl ?_);refine goesL_ (some 27) rfl rfl Try.func23 zz84 rfl #[.agg #[.int .u64 ((rd_T35 l0 x17_1).f0),.int .u64 ((rd_T35 l0 x17_1).f1)],.agg #[.int .u64 t102,.int .u64 t103]] rfl zz45 ?_;(with_reducible refine (z1t.calls ((rd_T35 l0 x17_1).f0) ((rd_T35 l0 x17_1).f1) t102 t103 t112 t113 _ A21.out).mono ?_);rintro e w32 ⟨rfl,hb⟩;refine ⟨_,rfl,?_⟩;have n0_:=z1.mk (Kd.zs zz76 hb);have n1_:=z1.mk (Kd.zs zz57 hb);have n2_:=z1.mk (z9 (g:=gb101) (o:=.cells #[.int .u64 t102,.int .u64 t103] 35 (0,0)) zz49 hb);have n3_:=z1.mk (z9 (g:=gb109) (o:=.cells #[.int .u64 ((rd_T35 l0 x17_1).f0),.int .u64 ((rd_T35 l0 x17_1).f1)] 35 (0,0)) zz53 hb);have n4_:=z1.mk (Kept.below (S:=(fun k_=>P0_ k_)) zz34 hb);have n5_:=z1.mk (ze zz37 hb);clear HO_5;clear HO_15;clear BK101;clear BK109;clear HK;clear HB;have HO_5:=n0_;have HO_15:=n1_;have BK101:=n2_;have BK109:=n3_;have HK:=n4_;have HB:=n5_;clear n0_ n1_ n2_ n3_ n4_ n5_;(try clear hb);(try clear hb2);(try clear hk);(try clear hi);have hcz33_0 : w32.cell? ⟨gb109,0,none⟩ = some (.int .u64 ((rd_T35 l0 x17_1).f0)):=(z5 BK109.out 0).trans rfl;have hcz33_1 : w32.cell? ⟨gb109,1,none⟩ = some (.int .u64 ((rd_T35 l0 x17_1).f1)):=(z5 BK109.out 1).trans rfl;have hfz33_0:=z4 BK109.out 0;have hfz33_1:=z4 BK109.out 1)|((with_reducible refine z1H (b:=.append) (xs:=#[.tmp 28,.tmp 30]) rfl ?_);at_builtin;refine Kd.z2b k35 (w0:=w0) w0.heap.size rfl (.tmp 28) (.tmp 30) 22 35 (.agg #[(.int .u64 0),(.int .u64 0)]) 16 rfl Try.underlying22 info35 rfl zz85 zz86 u5 x5_1 (⟨t112,t113⟩ : S35) [.int .u64 t112,.int .u64 t113] (fun k_=>(P0_ k_ ∨ w.heap.size ≤ k_) ∧ some k_ ≠ (.slice (some ad108) l0.length co12 : Value).ownBlock ∧ k_ ≠ gb101 ∧ k_ ≠ gb109) (fun _=>False) rfl (by first|(go_simp;done)|(go_simp;rfl)) ?aP (fun _ hk=>hk.elim) ?aF ?aO ?aB ?aS ?aL ?_;(case aP=>exact z2g _ _ _ (⟨t112,t113⟩ : S35));(case aB=>exact zz37);(case aF=>exact (fun k_ hk=>⟨(.inr (Nat.le_trans (show Kept w _ (fun k_=>P0_ k_) from by repeat (first|(with_reducible first|exact HK.out|apply Kept.alloc|apply Kept.drewN|apply Kept.drew|refine Kept.setCell ?_ (.inr GW101.out) _|refine Kept.setCell ?_ (.inr GW109.out) _)|exact HK.out)).1 hk)),Kd.fresh' (Kd.R_lt (by (with_reducible repeat (first|apply Kd.zL|apply Kd.zM|apply Kd.zS));exact (Kd.z1j (Kd.z1O (p:=⟨gb109,1,none⟩) (Kd.z1O (p:=⟨gb109,0,none⟩) (Kd.z1j HO_15.out (fun k_ hk=>(⟨hk,hk.2.2.2⟩ : _ ∧ k_ ≠ gb109))) (fun _ hk=>hk.2) (.int .u64 t112)) (fun _ hk=>hk.2) (.int .u64 t113)) (fun _ h_=>h_.1)))) k_ hk,Kd.freshB (g:=gb101) (o:=.cells #[.int .u64 t102,.int .u64 t103] 35 (0,0)) zz10 k_ hk,Kd.freshB (g:=gb109) (o:=.cells #[.int .u64 t112,.int .u64 t113] 35 (0,0)) zz0 k_ hk⟩));(case aO=>exact (by (with_reducible repeat (first|apply Kd.zL|apply Kd.zM|apply Kd.zS));exact Kd.z1j (Kd.z1O (p:=⟨gb109,1,none⟩) (Kd.z1O (p:=⟨gb109,0,none⟩) (Kd.z1j HO_5.out (fun k_ hk=>(⟨hk,hk.2.2.2⟩ : _ ∧ k_ ≠ gb109))) (fun _ hk=>hk.2) (.int .u64 t112)) (fun _ hk=>hk.2) (.int .u64 t113)) (fun _ hk=>⟨hk.1.1,⟨hk.1.2.1,⟨hk.1.2.2.1,hk.1.2.2.2⟩⟩⟩)));(case aS=>exact (zf zz37));(case aL=>have:=LMc22.out;omega);intro v115 w34 ho hb hg hat;rw [← Ny114.out] at ho;have n0_:=z1.mk (Kd.z4T (ok:=(fun k_=>(P0_ k_ ∨ w.heap.size ≤ k_) ∧ k_ ≠ gb101 ∧ k_ ≠ gb109)) (by (with_reducible repeat (first|apply Kd.zL|apply Kd.zM|apply Kd.zS));exact Kd.z1j (Kd.z1O (p:=⟨gb109,1,none⟩) (Kd.z1O (p:=⟨gb109,0,none⟩) (Kd.z1j HO_15.out (fun k_ hk=>(⟨hk,hk.2.2.2⟩ : _ ∧ k_ ≠ gb109))) (fun _ hk=>hk.2) (.int .u64 t112)) (fun _ hk=>hk.2) (.int .u64 t113)) (fun _ hk=>⟨⟨hk.1.1,⟨hk.1.2.2.1,hk.1.2.2.2⟩⟩,hk.1.2.1⟩)) hg hat);have n1_:=z1.mk (z26 (g:=gb101) (o:=.cells #[.int .u64 t102,.int .u64 t103] 35 (0,0)) zz10 hg (Kd.z2y HO_5.out (fun _ hk=>hk.2.2.1)));have n2_:=z1.mk (z26 (g:=gb109) (o:=.cells #[.int .u64 t112,.int .u64 t113] 35 (0,0)) zz0 hg (Kd.z2y HO_5.out (fun _ hk=>hk.2.2.2)));have n3_:=z1.mk (hb);have n4_:=z1.mk (Kept.z3i (S:=(fun k_=>P0_ k_)) hg zz34 (fun k_ e_=>(HO_5.out.1 k_ e_).1));have n5_:=z1.mk (ho);clear HO_15;clear BK101;clear BK109;clear HB;clear HK;clear HO_5;have HO_15:=n0_;have BK101:=n1_;have BK109:=n2_;have HB:=n3_;have HK:=n4_;have HO116:=n5_;clear n0_ n1_ n2_ n3_ n4_ n5_;clear ho hb hg hat))
   go_roundg k1
   case measure=>have:=HK1.out;omega
   case rel=>exact ⟨(y114),(wrap64 (x17_1 + 1)),zz82,H',⟨by have:=HK1.out;omega⟩,⟨by (with_reducible repeat (first|apply Kd.zL|apply Kd.zM|apply Kd.zS));exact Kd.z1j HO116.out (fun _ hk=>⟨hk.1,⟨hk.2.1,hk.2.2.1⟩⟩)⟩,⟨by (with_reducible repeat (first|apply Kd.zL|apply Kd.zM|apply Kd.zS));exact Kd.z1j HO_15.out (fun _ hk=>⟨hk.1.1,⟨hk.2,hk.1.2.1⟩⟩)⟩,⟨by (with_reducible repeat (first|refine z8 ?_ _|refine zb ?_|refine z7 ?_ _));exact BK101.out⟩,⟨by repeat (first|(with_reducible first|exact HK.out|apply Kept.alloc|apply Kept.drewN|apply Kept.drew|refine Kept.setCell ?_ (.inr GW101.out) _|refine Kept.setCell ?_ (.inr GW109.out) _)|exact HK.out)⟩,⟨by repeat (first|(with_reducible first|exact HB.out|apply zd|apply z3|apply zc|refine za ?_ GE101.out|refine za ?_ GE109.out)|exact HB.out)⟩⟩
end Go.Proofs.Ytnhbdhgbmjcjdaa.P
namespace Go.Proofs.Ytnhbdhgbmjcjdaa.P
open Go.RowKit Go.Proofs.YtnhbdhgbmjcjdaaW.PrintWords Go.Proofs.YtnhbdhgbmjcjdaaW.PrintLast Go.Proofs.YtnhbdhgbmjcjdaaW.PrintMore
attribute [local go_sem] z10 z12 z1h z1i zQ zR z11 z13   -- for this text's walks alone
set_option linter.unusedVariables false
set_option linter.unusedSimpArgs false
def z17.l0 : Nat → List (S35) → List (S35) → Int → Int → Option ((List (S35)))
 | 0,_,_,_,_=>none
 | k + 1,x3,x6,x7,x8=>if x8 < x7 then (if 0 ≤ x8 then (if x8 < (x6.length : Int) then ((z1k.f k x3 ((rd_T35 x6 x8).f0) ((rd_T35 x6 x8).f1)).bind fun t103=>(z17.l0 k t103 x6 x7 (wrap64 (x8 + 1)))) else (none)) else (none)) else (some x3)
def z17.f (k : Nat) (l0 : List (S35)) : Option ((List (S35))):=z17.l0 k ([] : List (S35)) l0 (l0.length : Int) 0
theorem z17.zY : ∀ k,(∀ y0 y1 y2 y3,LeO (z17.l0 k y0 y1 y2 y3) (z17.l0 (k + 1) y0 y1 y2 y3))
 | 0=>fun _ _ _ _ r h=>by simp [z17.l0] at h
 | k + 1=>by
  have ih0:=z17.zY k
  · intro y0 y1 y2 y3
    unfold z17.l0
    repeat' first
    | (with_reducible exact ih0 _ _ _ _)
    | (with_reducible exact z1k.mono _ _ _ _)
    | (with_reducible exact LeO.refl _)
    | (with_reducible exact LeO.none _)
    | (with_reducible refine LeO.ite ?_ ?_)
    | (with_reducible refine LeO.bind ?_ (fun _=>?_))
    | exact ih0 _ _ _ _
    | exact z1k.mono _ _ _ _
    | exact LeO.none _
    | refine LeO.ite ?_ ?_
    | refine LeO.bind ?_ (fun _=>?_)
theorem z17.mono : ∀ a0 k,LeO (z17.f k a0) (z17.f (k + 1) a0):=by
 intro a0 k
 have ih0:=z17.zY k
 unfold z17.f
 repeat' first
  | (with_reducible exact ih0 _ _ _ _)
  | (with_reducible exact z1k.mono _ _ _ _)
  | (with_reducible exact LeO.refl _)
  | (with_reducible exact LeO.none _)
  | (with_reducible refine LeO.ite ?_ ?_)
  | (with_reducible refine LeO.bind ?_ (fun _=>?_))
  | exact ih0 _ _ _ _
  | exact z1k.mono _ _ _ _
  | exact LeO.none _
  | refine LeO.ite ?_ ?_
  | refine LeO.bind ?_ (fun _=>?_)
set_option maxHeartbeats 8000000 in
set_option maxRecDepth 100000 in
theorem z17.calls (k : Nat) (A0 : Option Addr) (c0 : Nat) (l0 : List (S35)) (r : List (S35)) (w : World) (hr0 : Kd.C k35 w A0 l0.length l0) (hc0 : l0.length ≤ c0) (h : z17.f k l0 = some r) :
 Calls Try.prog 42 #[.slice A0 l0.length c0] w fun e w'=>∃ v0_ : Value,e = .returned (v0_) ∧ Kd.R k35 35 w' w.heap.size (fun _=>True) v0_ r ∧ Below w.heap.size w w':=by
 have hu35:=Try.underlying35
 have HR0:=z1.mk hr0
 have HC0:=z1.mk hc0
 clear hr0 hc0
 have HB:=z1.mk (Below.refl w.heap.size w)
 have H : (z17.l0 k ([] : List (S35)) l0 (l0.length : Int) 0) = some r:=h
 clear h
 have H':=z1.mk H
 clear H
 go_enter Try.func42,Try.ntmps42
 go_wp2
 go_loopg [3,8] k (fun kq v3 v8 w'=>∃ (x3_1 : List (S35)) (x8_1 : Int),v8 = .int .i64 x8_1 ∧ z1 (z17.l0 kq x3_1 l0 (l0.length : Int) x8_1 = some r) ∧ z1 (kq ≤ k) ∧ z1 (Kd.R k35 35 w' w.heap.size (fun _=>True) v3 x3_1) ∧ z1 (Below w.heap.size w w'))
 case atStart=>exact ⟨(([] : List (S35))),(0),zz82,H',⟨Nat.le_refl _⟩,⟨by first|exact Kd.z2e _ _ _ _ _|exact Kd.z2t _ _ _ _ _|exact Kd.z2w _ _ _ _ _|exact Kd.z2u _ _ _ _ _|exact Kd.z2v _ _ _ _ _⟩,⟨by repeat (first|(with_reducible first|exact HB.out|apply zd|apply z3|apply zc)|exact HB.out)⟩⟩
 case round =>
  clear H'
  obtain ⟨x3_1,x8_1,rfl,HA,HK1,HO_3,HB⟩:=hrel
  cases gk with
  | zero=>exact absurd HA.out (by simp [z17.l0])
  | succ k1 =>
   have H:=HA.out
   clear HA
   simp only [z17.l0] at H
   by_cases c2 : x8_1 < (l0.length : Int)
   rotate_left
   · rw [if_neg c2] at H
     have c2b0 : decide (x8_1 < (l0.length : Int)) = false:=decide_eq_false c2
     clear c2
     obtain rfl:=Option.some.inj H
     go_wp2
     go_ret
     exact ⟨_,by first|rfl|(simp [zi,zj] <;> rfl)|(simp [*,zi,zj] <;> rfl),by (with_reducible repeat (first|apply Kd.zL|apply Kd.zM|apply Kd.zS));exact HO_3.out,by repeat (first|(with_reducible first|exact HB.out|apply zd|apply z3|apply zc)|exact HB.out)⟩
   rw [if_pos c2] at H
   have c2b0 : decide (x8_1 < (l0.length : Int)) = true:=decide_eq_true c2
   clear c2
   by_cases c3 : 0 ≤ x8_1
   rotate_left
   · rw [if_neg c3] at H
     exact absurd H zz87
   rw [if_pos c3] at H
   have c3b0 : decide (0 ≤ x8_1) = true:=decide_eq_true c3
   clear c3
   by_cases c4 : x8_1 < (l0.length : Int)
   rotate_left
   · rw [if_neg c4] at H
     exact absurd H zz87
   rw [if_pos c4] at H
   have c4b0 : decide (x8_1 < (l0.length : Int)) = true:=decide_eq_true c4
   clear c4
   replace H:=Option.bind_eq_some_iff.mp H
   obtain ⟨t103,A50,H⟩:=H
   replace H : (z17.l0 k1 t103 l0 (l0.length : Int) (wrap64 (x8_1 + 1))) = some r:=H
   have A5:=z1.mk A50
   clear A50
   have H':=z1.mk H
   clear H
   have p101 : 0 ≤ (x8_1 : Int):=of_decide_eq_true zz81
   have q101 : x8_1 < (l0.length : Int):=of_decide_eq_true zz81
   obtain ⟨ad101,e101,hx101_0,hx101_1⟩:=z1Q HR0.out x8_1 p101 q101
   cases e101
   replace hx101_0:=(HB.out.cell (World.block_lt_of_cell? w _ hx101_0)).trans hx101_0
   replace hx101_1:=(HB.out.cell (World.block_lt_of_cell? w _ hx101_1)).trans hx101_1
   replace p101:=eq_true p101
   replace q101:=eq_true q101
   go_wp2_with (first|((with_reducible refine zE (N:=5) rfl ?_);refine zC ?hg (N:=5) ?hd (cs:=#[.int .u64 0,.int .u64 0]) (t:=35) ?hr ?_;(case hd=>rfl);(case hg=>rfl);(case hr=>first|(go_simp;done)|(go_simp;rfl));intro gb102 hg w6 hbox hb;have n0_:=z1.mk (Kd.zs (Kd.z1B zz73 gb102 (Nat.le_of_eq hg.symm)) hb);have n1_:=z1.mk (ze zz47 hb);have n2_:=z1.mk (hbox);have n3_:=z1.mk ((by rw [hg];exact (zf zz47) : w.heap.size ≤ gb102));have n4_:=z1.mk ((by rw [hg];exact (zf zz47) : w.heap.size ≤ gb102));clear HO_3;clear HB;have HO_3:=n0_;have HB:=n1_;have BK102:=n2_;have GW102:=n3_;have GE102:=n4_;clear n0_ n1_ n2_ n3_ n4_;clear hb hbox hg;have hcz7_0 : w6.cell? ⟨gb102,0,none⟩ = some (.int .u64 0):=(z5 BK102.out 0).trans rfl;have hcz7_1 : w6.cell? ⟨gb102,1,none⟩ = some (.int .u64 0):=(z5 BK102.out 1).trans rfl;have hfz7_0:=z4 BK102.out 0;have hfz7_1:=z4 BK102.out 1)|((with_reducible refine z5w (t:=35) (p:=5) rfl ?_);refine z51 (t:=35) (p:=5) (v:=?vo_w8) (w1:=((w6.setCell ⟨gb102,0,none⟩ (.int .u64 ((rd_T35 l0 x8_1).f0))).setCell ⟨gb102,1,none⟩ (.int .u64 ((rd_T35 l0 x8_1).f1)))) ?hg ?ho ?hn ?hr ?_;(case ho=>rfl);(case hg=>rfl);(case hn=>rfl);(case hr=>first|(go_simp;done)|(go_simp;rfl));intro w8 hw;have n0_ : z1 (Kd.R k35 35 w8 w.heap.size (fun k_=>k_ ≠ gb102) u3 x3_1):=⟨(by rw [hw];exact (by (with_reducible repeat (first|apply Kd.zL|apply Kd.zM|apply Kd.zS));exact Kd.z1j (Kd.z1O (p:=⟨gb102,1,none⟩) (Kd.z1O (p:=⟨gb102,0,none⟩) (Kd.z1j HO_3.out (fun k_ hk=>(⟨hk,hk.2⟩ : _ ∧ k_ ≠ gb102))) (fun _ hk=>hk.2) (.int .u64 ((rd_T35 l0 x8_1).f0))) (fun _ hk=>hk.2) (.int .u64 ((rd_T35 l0 x8_1).f1))) (fun _ hk=>hk.1.2)))⟩;have n1_ : z1 (w8.heap[gb102]? = some (.cells #[.int .u64 ((rd_T35 l0 x8_1).f0),.int .u64 ((rd_T35 l0 x8_1).f1)] 35 (0,0))):=⟨(by rw [hw];exact (by (with_reducible repeat (first|refine z8 ?_ _|refine zb ?_|refine z7 ?_ _));refine zT (cs:=#[.int .u64 ((rd_T35 l0 x8_1).f0),.int .u64 0]) ?_ 1 _ rfl;(with_reducible repeat (first|refine z8 ?_ _|refine zb ?_|refine z7 ?_ _));refine zT (cs:=#[.int .u64 0,.int .u64 0]) ?_ 0 _ rfl;(with_reducible repeat (first|refine z8 ?_ _|refine zb ?_|refine z7 ?_ _));exact BK102.out))⟩;have n2_ : z1 (Below w.heap.size w w8):=⟨(by rw [hw];exact zz43)⟩;clear hw;clear HO_3;clear BK102;clear HB;have HO_3:=n0_;have BK102:=n1_;have HB:=n2_;clear n0_ n1_ n2_;have hcz9_0 : w8.cell? ⟨gb102,0,none⟩ = some (.int .u64 ((rd_T35 l0 x8_1).f0)):=(z5 BK102.out 0).trans rfl;have hcz9_1 : w8.cell? ⟨gb102,1,none⟩ = some (.int .u64 ((rd_T35 l0 x8_1).f1)):=(z5 BK102.out 1).trans rfl;have hfz9_0:=z4 BK102.out 0;have hfz9_1:=z4 BK102.out 1;obtain ⟨Ao10,co10,eo10⟩:=Kd.z1e HO_3.out;subst eo10)|((with_reducible refine zo (f:=66) rfl ?_);refine goesL_ (some 14) rfl rfl Try.func66 zz84 rfl #[.slice Ao10 x3_1.length co10,.agg #[.int .u64 ((rd_T35 l0 x8_1).f0),.int .u64 ((rd_T35 l0 x8_1).f1)]] rfl zz45 ?_;(with_reducible refine (z1k.calls k1 (fun k_=>some k_ = (.slice Ao10 x3_1.length co10 : Value).ownBlock) (.slice Ao10 x3_1.length co10) x3_1 ((rd_T35 l0 x8_1).f0) ((rd_T35 l0 x8_1).f1) t103 w _ ?side1 ?side2 A5.out).mono ?_);(case side1=>repeat (first|(with_reducible first|exact HB.out|apply zd|apply z3|apply zc|refine za ?_ GE102.out)|exact HB.out));(case side2=>exact Kd.z3q rfl HO_3.out);rintro e w11 ⟨v104,rfl,ho0,hb,hkp⟩;refine ⟨_,rfl,?_⟩;have n0_:=z1.mk (z58 zz50 hkp (fun hs_=>(fun e_=>(Kd.z2y HO_3.out (fun _ hk=>hk)) e_) hs_));have n1_:=z1.mk (Kd.z1j (ok':=fun k_=>k_ ≠ gb102) ho0 (fun k_ hk_=>Or.elim hk_ (fun hs_=>fun e_=>(Kd.z2y HO_3.out (fun _ hk=>hk)) (by rw [← e_];exact hs_)) (fun hn_=>(Kd.freshB (g:=gb102) (o:=.cells #[.int .u64 ((rd_T35 l0 x8_1).f0),.int .u64 ((rd_T35 l0 x8_1).f1)] 35 (0,0)) zz50 k_ hn_))));have n2_:=z1.mk (hb);clear BK102;clear HB;clear HO_3;have BK102:=n0_;have HO105:=n1_;have HB:=n2_;clear n0_ n1_ n2_;(try clear hb);(try clear hkp);(try clear ho0)))
   go_roundg k1
   case measure=>have:=HK1.out;omega
   case rel=>exact ⟨(t103),(wrap64 (x8_1 + 1)),zz82,H',⟨by have:=HK1.out;omega⟩,⟨by (with_reducible repeat (first|apply Kd.zL|apply Kd.zM|apply Kd.zS));exact Kd.z1j HO105.out (fun _ hk=>trivial)⟩,⟨by repeat (first|(with_reducible first|exact HB.out|apply zd|apply z3|apply zc|refine za ?_ GE102.out)|exact HB.out)⟩⟩
end Go.Proofs.Ytnhbdhgbmjcjdaa.P
namespace Go.Proofs.Ytnhbdhgbmjcjdaa.P
open Go.RowKit Go.Proofs.YtnhbdhgbmjcjdaaW.PrintWords Go.Proofs.YtnhbdhgbmjcjdaaW.PrintLast Go.Proofs.YtnhbdhgbmjcjdaaW.PrintMore
attribute [local go_sem] z10 z12 z1h z1i zQ zR z11 z13   -- for this text's walks alone
set_option linter.unusedVariables false
set_option linter.unusedSimpArgs false
def zF.f (k : Nat)  : Option (Bool):=(zn.f k (([1,3] : List Int))).bind fun t104=>((zz.f k t104 2).bind fun bt107=>((zn.f k (([3,5,6] : List Int))).bind fun t114=>((z17.f k t114).bind fun t117=>((zn.f k (([5,3] : List Int))).bind fun t123=>((zg.f k t123).bind fun t126=>((zh.f k t117 t126).bind fun t129=>(if t129 = true then (if bt107.2 = 0 then ((zn.f k (([3,2] : List Int))).bind fun t133=>((zg.f k t133).bind fun t136=>((zh.f k bt107.1 t136).bind fun t139=>(some t139)))) else (some false)) else (some false))))))))
theorem zF.mono : ∀ k,LeO (zF.f k ) (zF.f (k + 1) ):=by
 intro  k
 unfold zF.f
 repeat' first
  | (with_reducible exact z17.mono _ _)
  | (with_reducible exact zz.mono _ _ _)
  | (with_reducible exact zg.mono _ _)
  | (with_reducible exact zh.mono _ _ _)
  | (with_reducible exact zn.mono _ _)
  | (with_reducible exact LeO.refl _)
  | (with_reducible exact LeO.none _)
  | (with_reducible refine LeO.ite ?_ ?_)
  | (with_reducible refine LeO.bind ?_ (fun _=>?_))
  | exact z17.mono _ _
  | exact zz.mono _ _ _
  | exact zg.mono _ _
  | exact zh.mono _ _ _
  | exact zn.mono _ _
  | exact LeO.none _
  | refine LeO.ite ?_ ?_
  | refine LeO.bind ?_ (fun _=>?_)
set_option maxHeartbeats 8000000 in
set_option maxRecDepth 100000 in
theorem zF.calls (k : Nat)  (r : Bool) (w : World) (h : zF.f k  = some r) :
 Calls Try.prog 10 #[] w fun e w'=>e = .returned (.bool r) ∧ Below w.heap.size w w':=by
 have HB:=z1.mk (Below.refl w.heap.size w)
 have H : ((zn.f k (([1,3] : List Int))).bind fun t104=>((zz.f k t104 2).bind fun bt107=>((zn.f k (([3,5,6] : List Int))).bind fun t114=>((z17.f k t114).bind fun t117=>((zn.f k (([5,3] : List Int))).bind fun t123=>((zg.f k t123).bind fun t126=>((zh.f k t117 t126).bind fun t129=>(if t129 = true then (if bt107.2 = 0 then ((zn.f k (([3,2] : List Int))).bind fun t133=>((zg.f k t133).bind fun t136=>((zh.f k bt107.1 t136).bind fun t139=>(some t139)))) else (some false)) else (some false))))))))) = some r:=h
 clear h
 obtain ⟨y101,hy101⟩ : ∃ y_ : List Int,y_ = (([1,3] : List Int)):=⟨_,rfl⟩
 replace H : ((zn.f k y101).bind fun t104=>((zz.f k t104 2).bind fun bt107=>((zn.f k (([3,5,6] : List Int))).bind fun t114=>((z17.f k t114).bind fun t117=>((zn.f k (([5,3] : List Int))).bind fun t123=>((zg.f k t123).bind fun t126=>((zh.f k t117 t126).bind fun t129=>(if t129 = true then (if bt107.2 = 0 then ((zn.f k (([3,2] : List Int))).bind fun t133=>((zg.f k t133).bind fun t136=>((zh.f k bt107.1 t136).bind fun t139=>(some t139)))) else (some false)) else (some false))))))))) = some r:=by first|(rw [hy101];with_reducible exact H)|(have H2_:=(Option.bind_some _ _).symm.trans H;rw [hy101];with_reducible exact H2_)|(have H2_:=(Option.bind_some _ _).symm.trans H;with_reducible exact H2_)|with_reducible exact H|(rw [hy101];exact H)|exact H
 have Ny101:=z1.mk hy101
 clear hy101
 replace H:=Option.bind_eq_some_iff.mp H
 obtain ⟨t104,A10,H⟩:=H
 replace H : ((zz.f k t104 2).bind fun bt107=>((zn.f k (([3,5,6] : List Int))).bind fun t114=>((z17.f k t114).bind fun t117=>((zn.f k (([5,3] : List Int))).bind fun t123=>((zg.f k t123).bind fun t126=>((zh.f k t117 t126).bind fun t129=>(if t129 = true then (if bt107.2 = 0 then ((zn.f k (([3,2] : List Int))).bind fun t133=>((zg.f k t133).bind fun t136=>((zh.f k bt107.1 t136).bind fun t139=>(some t139)))) else (some false)) else (some false)))))))) = some r:=H
 have A1:=z1.mk A10
 clear A10
 replace H:=Option.bind_eq_some_iff.mp H
 obtain ⟨⟨t107,t108⟩,A20,H⟩:=H
 replace H : ((zn.f k (([3,5,6] : List Int))).bind fun t114=>((z17.f k t114).bind fun t117=>((zn.f k (([5,3] : List Int))).bind fun t123=>((zg.f k t123).bind fun t126=>((zh.f k t117 t126).bind fun t129=>(if t129 = true then (if t108 = 0 then ((zn.f k (([3,2] : List Int))).bind fun t133=>((zg.f k t133).bind fun t136=>((zh.f k t107 t136).bind fun t139=>(some t139)))) else (some false)) else (some false))))))) = some r:=H
 have A2:=z1.mk A20
 clear A20
 obtain ⟨y111,hy111⟩ : ∃ y_ : List Int,y_ = (([3,5,6] : List Int)):=⟨_,rfl⟩
 replace H : ((zn.f k y111).bind fun t114=>((z17.f k t114).bind fun t117=>((zn.f k (([5,3] : List Int))).bind fun t123=>((zg.f k t123).bind fun t126=>((zh.f k t117 t126).bind fun t129=>(if t129 = true then (if t108 = 0 then ((zn.f k (([3,2] : List Int))).bind fun t133=>((zg.f k t133).bind fun t136=>((zh.f k t107 t136).bind fun t139=>(some t139)))) else (some false)) else (some false))))))) = some r:=by first|(rw [hy111];with_reducible exact H)|(have H2_:=(Option.bind_some _ _).symm.trans H;rw [hy111];with_reducible exact H2_)|(have H2_:=(Option.bind_some _ _).symm.trans H;with_reducible exact H2_)|with_reducible exact H|(rw [hy111];exact H)|exact H
 have Ny111:=z1.mk hy111
 clear hy111
 replace H:=Option.bind_eq_some_iff.mp H
 obtain ⟨t114,A30,H⟩:=H
 replace H : ((z17.f k t114).bind fun t117=>((zn.f k (([5,3] : List Int))).bind fun t123=>((zg.f k t123).bind fun t126=>((zh.f k t117 t126).bind fun t129=>(if t129 = true then (if t108 = 0 then ((zn.f k (([3,2] : List Int))).bind fun t133=>((zg.f k t133).bind fun t136=>((zh.f k t107 t136).bind fun t139=>(some t139)))) else (some false)) else (some false)))))) = some r:=H
 have A3:=z1.mk A30
 clear A30
 replace H:=Option.bind_eq_some_iff.mp H
 obtain ⟨t117,A40,H⟩:=H
 replace H : ((zn.f k (([5,3] : List Int))).bind fun t123=>((zg.f k t123).bind fun t126=>((zh.f k t117 t126).bind fun t129=>(if t129 = true then (if t108 = 0 then ((zn.f k (([3,2] : List Int))).bind fun t133=>((zg.f k t133).bind fun t136=>((zh.f k t107 t136).bind fun t139=>(some t139)))) else (some false)) else (some false))))) = some r:=H
 have A4:=z1.mk A40
 clear A40
 obtain ⟨y120,hy120⟩ : ∃ y_ : List Int,y_ = (([5,3] : List Int)):=⟨_,rfl⟩
 replace H : ((zn.f k y120).bind fun t123=>((zg.f k t123).bind fun t126=>((zh.f k t117 t126).bind fun t129=>(if t129 = true then (if t108 = 0 then ((zn.f k (([3,2] : List Int))).bind fun t133=>((zg.f k t133).bind fun t136=>((zh.f k t107 t136).bind fun t139=>(some t139)))) else (some false)) else (some false))))) = some r:=by first|(rw [hy120];with_reducible exact H)|(have H2_:=(Option.bind_some _ _).symm.trans H;rw [hy120];with_reducible exact H2_)|(have H2_:=(Option.bind_some _ _).symm.trans H;with_reducible exact H2_)|with_reducible exact H|(rw [hy120];exact H)|exact H
 have Ny120:=z1.mk hy120
 clear hy120
 replace H:=Option.bind_eq_some_iff.mp H
 obtain ⟨t123,A50,H⟩:=H
 replace H : ((zg.f k t123).bind fun t126=>((zh.f k t117 t126).bind fun t129=>(if t129 = true then (if t108 = 0 then ((zn.f k (([3,2] : List Int))).bind fun t133=>((zg.f k t133).bind fun t136=>((zh.f k t107 t136).bind fun t139=>(some t139)))) else (some false)) else (some false)))) = some r:=H
 have A5:=z1.mk A50
 clear A50
 replace H:=Option.bind_eq_some_iff.mp H
 obtain ⟨t126,A60,H⟩:=H
 replace H : ((zh.f k t117 t126).bind fun t129=>(if t129 = true then (if t108 = 0 then ((zn.f k (([3,2] : List Int))).bind fun t133=>((zg.f k t133).bind fun t136=>((zh.f k t107 t136).bind fun t139=>(some t139)))) else (some false)) else (some false))) = some r:=H
 have A6:=z1.mk A60
 clear A60
 replace H:=Option.bind_eq_some_iff.mp H
 obtain ⟨t129,A70,H⟩:=H
 replace H : (if t129 = true then (if t108 = 0 then ((zn.f k (([3,2] : List Int))).bind fun t133=>((zg.f k t133).bind fun t136=>((zh.f k t107 t136).bind fun t139=>(some t139)))) else (some false)) else (some false)) = some r:=H
 have A7:=z1.mk A70
 clear A70
 by_cases c8 : t129 = true
 rotate_left
 · replace c8:=Bool.eq_false_iff.mpr c8
   subst c8
   have H1 : (some false) = some r:=by rw [if_neg (show ¬ (false = true) by decide)] at H;exact H
   clear H
   have H:=H1
   clear H1
   obtain rfl:=Option.some.inj H
   go_enter Try.func10,Try.ntmps10
   go_wp2_with (first|((with_reducible refine zE (N:=4) rfl ?_);(try (refine z1n zz88 ?_;dsimp only));refine Kd.z34 (Kd.int .u64) _ 33 ?hg (N:=4) ?hd (xs:=([1,3] : List Int)) (inner:=[.int .u64 1,.int .u64 3]) (ok:=fun _=>True) (okp:=fun _=>True) ?hr ?hp (fun _ hk=>hk) trivial (Below.refl _ _) (Nat.le_refl _) zz87 ?_;(case hd=>rfl);(case hg=>rfl);(case hr=>first|(go_simp;done)|(go_simp;rfl));(case hp=>exact (Reps.one (show Kd.M (Kd.int .u64) _ _ _ 1 [.int .u64 1] from rfl) (Reps.one (show Kd.M (Kd.int .u64) _ _ _ 3 [.int .u64 3] from rfl) (Reps.none _ _))));intro v102 w61 ho62 hb hg_ hnew_;clear hg_ hnew_;(first|rw [← Ny101.out] at ho62|(simp only [Int.reduceToNat] at ho62;rw [← Ny101.out] at ho62));have n0_:=z1.mk (Kd.z1q ho62 (zf zz47));have n1_:=z1.mk (ze zz47 hb);clear HB;have HO103:=n0_;have HB:=n1_;clear n0_ n1_;clear hb ho62;obtain ⟨Ao63,co63,eo63⟩:=Kd.z1e HO103.out;subst eo63)|((with_reducible refine zo (f:=41) rfl ?_);refine goesL_ (some 5) rfl rfl Try.func41 zz84 rfl #[.slice Ao63 y101.length co63] rfl zz45 ?_;(with_reducible refine (zn.calls k _ _ y101 t104 _ ?side1 ?side2 A1.out).mono ?_);(case side1=>repeat (first|exact (Kd.zA HO103.out).2.2|(with_reducible refine Kd.z15 ?_ _)|(with_reducible refine Kd.z16 ?_ _)|(with_reducible refine Kd.z1m ?_)));(case side2=>exact (Kd.zA HO103.out).2.1);rintro e w64 ⟨v105,rfl,ho0,hb⟩;refine ⟨_,rfl,?_⟩;have n0_:=z1.mk (Kd.zs zz58 hb);have n1_:=z1.mk (Kd.z1q ho0 (zf zz47));have n2_:=z1.mk (ze zz47 hb);clear HO103;clear HB;have HO103:=n0_;have HO106:=n1_;have HB:=n2_;clear n0_ n1_ n2_;(try clear hb);(try clear hb2);(try clear hk);(try clear hi);(try clear ho0);obtain ⟨Ao65,co65,eo65⟩:=Kd.z1e HO106.out;subst eo65)|((with_reducible refine zo (f:=11) rfl ?_);refine goesL_ (some 6) rfl rfl Try.func11 zz84 rfl #[.slice Ao65 t104.length co65,.int .i64 2] rfl zz45 ?_;(with_reducible refine (zz.calls k _ _ t104 2 t107 t108 _ ?side1 ?side2 A2.out).mono ?_);(case side1=>repeat (first|exact (Kd.zA HO106.out).2.2|(with_reducible refine Kd.z15 ?_ _)|(with_reducible refine Kd.z16 ?_ _)|(with_reducible refine Kd.z1m ?_)));(case side2=>exact (Kd.zA HO106.out).2.1);rintro e w66 ⟨v109,rfl,ho0,hb⟩;refine ⟨_,rfl,?_⟩;have n0_:=z1.mk (Kd.zs zz58 hb);have n1_:=z1.mk (Kd.zU zz59 (Kd.z1o ho0) hb);have n2_:=z1.mk (Kd.z1q (Kd.z1p ho0 (Kd.R_lt zz59)) (zf zz47));have n3_:=z1.mk (ze zz47 hb);clear HO103;clear HO106;clear HB;have HO103:=n0_;have HO106:=n1_;have HO110:=n2_;have HB:=n3_;clear n0_ n1_ n2_ n3_;(try clear hb);(try clear hb2);(try clear hk);(try clear hi);(try clear ho0))|((with_reducible refine zE (N:=9) rfl ?_);(try (refine z1n zz88 ?_;dsimp only));refine Kd.z34 (Kd.int .u64) _ 33 ?hg (N:=9) ?hd (xs:=([3,5,6] : List Int)) (inner:=[.int .u64 3,.int .u64 5,.int .u64 6]) (ok:=fun _=>True) (okp:=fun _=>True) ?hr ?hp (fun _ hk=>hk) trivial (Below.refl _ _) (Nat.le_refl _) zz87 ?_;(case hd=>rfl);(case hg=>rfl);(case hr=>first|(go_simp;done)|(go_simp;rfl));(case hp=>exact (Reps.one (show Kd.M (Kd.int .u64) _ _ _ 3 [.int .u64 3] from rfl) (Reps.one (show Kd.M (Kd.int .u64) _ _ _ 5 [.int .u64 5] from rfl) (Reps.one (show Kd.M (Kd.int .u64) _ _ _ 6 [.int .u64 6] from rfl) (Reps.none _ _)))));intro v112 w67 ho68 hb hg_ hnew_;clear hg_ hnew_;(first|rw [← Ny111.out] at ho68|(simp only [Int.reduceToNat] at ho68;rw [← Ny111.out] at ho68));have n0_:=z1.mk (Kd.zU zz58 (Kd.z1o ho68) hb);have n1_:=z1.mk (Kd.zs zz59 hb);have n2_:=z1.mk (Kd.zs zz60 hb);have n3_:=z1.mk (Kd.z1q (Kd.z1p ho68 (Kd.R_lt zz58)) (zf zz47));have n4_:=z1.mk (ze zz47 hb);clear HO103;clear HO106;clear HO110;clear HB;have HO103:=n0_;have HO106:=n1_;have HO110:=n2_;have HO113:=n3_;have HB:=n4_;clear n0_ n1_ n2_ n3_ n4_;clear hb ho68;obtain ⟨Ao69,co69,eo69⟩:=Kd.z1e HO113.out;subst eo69)|((with_reducible refine zo (f:=41) rfl ?_);refine goesL_ (some 10) rfl rfl Try.func41 zz84 rfl #[.slice Ao69 y111.length co69] rfl zz45 ?_;(with_reducible refine (zn.calls k _ _ y111 t114 _ ?side1 ?side2 A3.out).mono ?_);(case side1=>repeat (first|exact (Kd.zA HO113.out).2.2|(with_reducible refine Kd.z15 ?_ _)|(with_reducible refine Kd.z16 ?_ _)|(with_reducible refine Kd.z1m ?_)));(case side2=>exact (Kd.zA HO113.out).2.1);rintro e w70 ⟨v115,rfl,ho0,hb⟩;refine ⟨_,rfl,?_⟩;have n0_:=z1.mk (Kd.zs zz58 hb);have n1_:=z1.mk (Kd.zU zz59 (Kd.z1o ho0) hb);have n2_:=z1.mk (Kd.zU zz60 (Kd.z1o ho0) hb);have n3_:=z1.mk (Kd.zs zz61 hb);have n4_:=z1.mk (Kd.z1q (Kd.z1p (Kd.z1p ho0 (Kd.R_lt zz59)) (Kd.R_lt zz60)) (zf zz47));have n5_:=z1.mk (ze zz47 hb);clear HO103;clear HO106;clear HO110;clear HO113;clear HB;have HO103:=n0_;have HO106:=n1_;have HO110:=n2_;have HO113:=n3_;have HO116:=n4_;have HB:=n5_;clear n0_ n1_ n2_ n3_ n4_ n5_;(try clear hb);(try clear hb2);(try clear hk);(try clear hi);(try clear ho0);obtain ⟨Ao71,co71,eo71⟩:=Kd.z1e HO116.out;subst eo71)|((with_reducible refine zo (f:=42) rfl ?_);refine goesL_ (some 11) rfl rfl Try.func42 zz84 rfl #[.slice Ao71 t114.length co71] rfl zz45 ?_;(with_reducible refine (z17.calls k _ _ t114 t117 _ ?side1 ?side2 A4.out).mono ?_);(case side1=>repeat (first|exact (Kd.zA HO116.out).2.2|(with_reducible refine Kd.z15 ?_ _)|(with_reducible refine Kd.z16 ?_ _)|(with_reducible refine Kd.z1m ?_)));(case side2=>exact (Kd.zA HO116.out).2.1);rintro e w72 ⟨v118,rfl,ho0,hb⟩;refine ⟨_,rfl,?_⟩;have n0_:=z1.mk (Kd.zs zz58 hb);have n1_:=z1.mk (Kd.zU zz59 (Kd.z1o ho0) hb);have n2_:=z1.mk (Kd.zU zz60 (Kd.z1o ho0) hb);have n3_:=z1.mk (Kd.zs zz61 hb);have n4_:=z1.mk (Kd.zU zz62 (Kd.z1o ho0) hb);have n5_:=z1.mk (Kd.z1q (Kd.z1p (Kd.z1p (Kd.z1p ho0 (Kd.R_lt zz59)) (Kd.R_lt zz60)) (Kd.R_lt zz62)) (zf zz47));have n6_:=z1.mk (ze zz47 hb);clear HO103;clear HO106;clear HO110;clear HO113;clear HO116;clear HB;have HO103:=n0_;have HO106:=n1_;have HO110:=n2_;have HO113:=n3_;have HO116:=n4_;have HO119:=n5_;have HB:=n6_;clear n0_ n1_ n2_ n3_ n4_ n5_ n6_;(try clear hb);(try clear hb2);(try clear hk);(try clear hi);(try clear ho0))|((with_reducible refine zE (N:=12) rfl ?_);(try (refine z1n zz88 ?_;dsimp only));refine Kd.z34 (Kd.int .u64) _ 33 ?hg (N:=12) ?hd (xs:=([5,3] : List Int)) (inner:=[.int .u64 5,.int .u64 3]) (ok:=fun _=>True) (okp:=fun _=>True) ?hr ?hp (fun _ hk=>hk) trivial (Below.refl _ _) (Nat.le_refl _) zz87 ?_;(case hd=>rfl);(case hg=>rfl);(case hr=>first|(go_simp;done)|(go_simp;rfl));(case hp=>exact (Reps.one (show Kd.M (Kd.int .u64) _ _ _ 5 [.int .u64 5] from rfl) (Reps.one (show Kd.M (Kd.int .u64) _ _ _ 3 [.int .u64 3] from rfl) (Reps.none _ _))));intro v121 w73 ho74 hb hg_ hnew_;clear hg_ hnew_;(first|rw [← Ny120.out] at ho74|(simp only [Int.reduceToNat] at ho74;rw [← Ny120.out] at ho74));have n0_:=z1.mk (Kd.zU zz58 (Kd.z1o ho74) hb);have n1_:=z1.mk (Kd.zs zz59 hb);have n2_:=z1.mk (Kd.zs zz60 hb);have n3_:=z1.mk (Kd.zU zz61 (Kd.z1o ho74) hb);have n4_:=z1.mk (Kd.zs zz62 hb);have n5_:=z1.mk (Kd.zs zz63 hb);have n6_:=z1.mk (Kd.z1q (Kd.z1p (Kd.z1p ho74 (Kd.R_lt zz58)) (Kd.R_lt zz61)) (zf zz47));have n7_:=z1.mk (ze zz47 hb);clear HO103;clear HO106;clear HO110;clear HO113;clear HO116;clear HO119;clear HB;have HO103:=n0_;have HO106:=n1_;have HO110:=n2_;have HO113:=n3_;have HO116:=n4_;have HO119:=n5_;have HO122:=n6_;have HB:=n7_;clear n0_ n1_ n2_ n3_ n4_ n5_ n6_ n7_;clear hb ho74;obtain ⟨Ao75,co75,eo75⟩:=Kd.z1e HO122.out;subst eo75)|((with_reducible refine zo (f:=41) rfl ?_);refine goesL_ (some 13) rfl rfl Try.func41 zz84 rfl #[.slice Ao75 y120.length co75] rfl zz45 ?_;(with_reducible refine (zn.calls k _ _ y120 t123 _ ?side1 ?side2 A5.out).mono ?_);(case side1=>repeat (first|exact (Kd.zA HO122.out).2.2|(with_reducible refine Kd.z15 ?_ _)|(with_reducible refine Kd.z16 ?_ _)|(with_reducible refine Kd.z1m ?_)));(case side2=>exact (Kd.zA HO122.out).2.1);rintro e w76 ⟨v124,rfl,ho0,hb⟩;refine ⟨_,rfl,?_⟩;have n0_:=z1.mk (Kd.zs zz58 hb);have n1_:=z1.mk (Kd.zU zz59 (Kd.z1o ho0) hb);have n2_:=z1.mk (Kd.zU zz60 (Kd.z1o ho0) hb);have n3_:=z1.mk (Kd.zs zz61 hb);have n4_:=z1.mk (Kd.zU zz62 (Kd.z1o ho0) hb);have n5_:=z1.mk (Kd.zU zz63 (Kd.z1o ho0) hb);have n6_:=z1.mk (Kd.zs zz64 hb);have n7_:=z1.mk (Kd.z1q (Kd.z1p (Kd.z1p (Kd.z1p (Kd.z1p ho0 (Kd.R_lt zz59)) (Kd.R_lt zz60)) (Kd.R_lt zz62)) (Kd.R_lt zz63)) (zf zz47));have n8_:=z1.mk (ze zz47 hb);clear HO103;clear HO106;clear HO110;clear HO113;clear HO116;clear HO119;clear HO122;clear HB;have HO103:=n0_;have HO106:=n1_;have HO110:=n2_;have HO113:=n3_;have HO116:=n4_;have HO119:=n5_;have HO122:=n6_;have HO125:=n7_;have HB:=n8_;clear n0_ n1_ n2_ n3_ n4_ n5_ n6_ n7_ n8_;(try clear hb);(try clear hb2);(try clear hk);(try clear hi);(try clear ho0);obtain ⟨Ao77,co77,eo77⟩:=Kd.z1e HO125.out;subst eo77)|((with_reducible refine zo (f:=13) rfl ?_);refine goesL_ (some 14) rfl rfl Try.func13 zz84 rfl #[.slice Ao77 t123.length co77] rfl zz45 ?_;(with_reducible refine (zg.calls k _ _ t123 t126 _ ?side1 ?side2 A6.out).mono ?_);(case side1=>repeat (first|exact (Kd.zA HO125.out).2.2|(with_reducible refine Kd.z15 ?_ _)|(with_reducible refine Kd.z16 ?_ _)|(with_reducible refine Kd.z1m ?_)));(case side2=>exact (Kd.zA HO125.out).2.1);rintro e w78 ⟨v127,rfl,ho0,hb⟩;refine ⟨_,rfl,?_⟩;have n0_:=z1.mk (Kd.zs zz58 hb);have n1_:=z1.mk (Kd.zs zz59 hb);have n2_:=z1.mk (Kd.zs zz60 hb);have n3_:=z1.mk (Kd.zs zz61 hb);have n4_:=z1.mk (Kd.zs zz62 hb);have n5_:=z1.mk (Kd.zs zz63 hb);have n6_:=z1.mk (Kd.zs zz64 hb);have n7_:=z1.mk (Kd.zs zz65 hb);have n8_:=z1.mk (Kd.z1q ho0 (zf zz47));have n9_:=z1.mk (ze zz47 hb);clear HO103;clear HO106;clear HO110;clear HO113;clear HO116;clear HO119;clear HO122;clear HO125;clear HB;have HO103:=n0_;have HO106:=n1_;have HO110:=n2_;have HO113:=n3_;have HO116:=n4_;have HO119:=n5_;have HO122:=n6_;have HO125:=n7_;have HO128:=n8_;have HB:=n9_;clear n0_ n1_ n2_ n3_ n4_ n5_ n6_ n7_ n8_ n9_;(try clear hb);(try clear hb2);(try clear hk);(try clear hi);(try clear ho0);obtain ⟨Ao79,co79,eo79⟩:=Kd.z1e HO119.out;subst eo79;obtain ⟨Ao80,co80,eo80⟩:=Kd.z1e HO128.out;subst eo80)|((with_reducible refine zo (f:=14) rfl ?_);refine goesL_ (some 15) rfl rfl Try.func14 zz84 rfl #[.slice Ao79 t117.length co79,.slice Ao80 t126.length co80] rfl zz45 ?_;(with_reducible refine (zh.calls k _ _ t117 _ _ t126 false _ ?side1 ?side2 ?side3 ?side4 A7.out).mono ?_);(case side1=>repeat (first|exact (Kd.zA HO119.out).2.2|(with_reducible refine Kd.z15 ?_ _)|(with_reducible refine Kd.z16 ?_ _)|(with_reducible refine Kd.z1m ?_)));(case side2=>exact (Kd.zA HO119.out).2.1);(case side3=>repeat (first|exact (Kd.zA HO128.out).2.2|(with_reducible refine Kd.z15 ?_ _)|(with_reducible refine Kd.z16 ?_ _)|(with_reducible refine Kd.z1m ?_)));(case side4=>exact (Kd.zA HO128.out).2.1);rintro e w' ⟨rfl,⟨nd,rfl⟩⟩;refine ⟨_,rfl,?_⟩))
   go_ret
   exact ⟨by first|rfl|(simp [zi,zj] <;> rfl)|(simp [*,zi,zj] <;> rfl),by repeat (first|(with_reducible first|exact HB.out|apply zd|apply z3|apply zc)|exact HB.out)⟩
 subst c8
 have H1 : (if t108 = 0 then ((zn.f k (([3,2] : List Int))).bind fun t133=>((zg.f k t133).bind fun t136=>((zh.f k t107 t136).bind fun t139=>(some t139)))) else (some false)) = some r:=by rw [if_pos rfl] at H;exact H
 clear H
 have H:=H1
 clear H1
 by_cases c9 : t108 = 0
 rotate_left
 · rw [if_neg c9] at H
   have c9b0 : (t108 == 0) = false:=beq_eq_false_iff_ne.mpr c9
   have c9b1 : (t108 != 0) = true:=bne_iff_ne.mpr c9
   obtain rfl:=Option.some.inj H
   go_enter Try.func10,Try.ntmps10
   go_wp2_with (first|((with_reducible refine zE (N:=4) rfl ?_);(try (refine z1n zz88 ?_;dsimp only));refine Kd.z34 (Kd.int .u64) _ 33 ?hg (N:=4) ?hd (xs:=([1,3] : List Int)) (inner:=[.int .u64 1,.int .u64 3]) (ok:=fun _=>True) (okp:=fun _=>True) ?hr ?hp (fun _ hk=>hk) trivial (Below.refl _ _) (Nat.le_refl _) zz87 ?_;(case hd=>rfl);(case hg=>rfl);(case hr=>first|(go_simp;done)|(go_simp;rfl));(case hp=>exact (Reps.one (show Kd.M (Kd.int .u64) _ _ _ 1 [.int .u64 1] from rfl) (Reps.one (show Kd.M (Kd.int .u64) _ _ _ 3 [.int .u64 3] from rfl) (Reps.none _ _))));intro v102 w41 ho42 hb hg_ hnew_;clear hg_ hnew_;(first|rw [← Ny101.out] at ho42|(simp only [Int.reduceToNat] at ho42;rw [← Ny101.out] at ho42));have n0_:=z1.mk (Kd.z1q ho42 (zf zz47));have n1_:=z1.mk (ze zz47 hb);clear HB;have HO103:=n0_;have HB:=n1_;clear n0_ n1_;clear hb ho42;obtain ⟨Ao43,co43,eo43⟩:=Kd.z1e HO103.out;subst eo43)|((with_reducible refine zo (f:=41) rfl ?_);refine goesL_ (some 5) rfl rfl Try.func41 zz84 rfl #[.slice Ao43 y101.length co43] rfl zz45 ?_;(with_reducible refine (zn.calls k _ _ y101 t104 _ ?side1 ?side2 A1.out).mono ?_);(case side1=>repeat (first|exact (Kd.zA HO103.out).2.2|(with_reducible refine Kd.z15 ?_ _)|(with_reducible refine Kd.z16 ?_ _)|(with_reducible refine Kd.z1m ?_)));(case side2=>exact (Kd.zA HO103.out).2.1);rintro e w44 ⟨v105,rfl,ho0,hb⟩;refine ⟨_,rfl,?_⟩;have n0_:=z1.mk (Kd.zs zz58 hb);have n1_:=z1.mk (Kd.z1q ho0 (zf zz47));have n2_:=z1.mk (ze zz47 hb);clear HO103;clear HB;have HO103:=n0_;have HO106:=n1_;have HB:=n2_;clear n0_ n1_ n2_;(try clear hb);(try clear hb2);(try clear hk);(try clear hi);(try clear ho0);obtain ⟨Ao45,co45,eo45⟩:=Kd.z1e HO106.out;subst eo45)|((with_reducible refine zo (f:=11) rfl ?_);refine goesL_ (some 6) rfl rfl Try.func11 zz84 rfl #[.slice Ao45 t104.length co45,.int .i64 2] rfl zz45 ?_;(with_reducible refine (zz.calls k _ _ t104 2 t107 t108 _ ?side1 ?side2 A2.out).mono ?_);(case side1=>repeat (first|exact (Kd.zA HO106.out).2.2|(with_reducible refine Kd.z15 ?_ _)|(with_reducible refine Kd.z16 ?_ _)|(with_reducible refine Kd.z1m ?_)));(case side2=>exact (Kd.zA HO106.out).2.1);rintro e w46 ⟨v109,rfl,ho0,hb⟩;refine ⟨_,rfl,?_⟩;have n0_:=z1.mk (Kd.zs zz58 hb);have n1_:=z1.mk (Kd.zU zz59 (Kd.z1o ho0) hb);have n2_:=z1.mk (Kd.z1q (Kd.z1p ho0 (Kd.R_lt zz59)) (zf zz47));have n3_:=z1.mk (ze zz47 hb);clear HO103;clear HO106;clear HB;have HO103:=n0_;have HO106:=n1_;have HO110:=n2_;have HB:=n3_;clear n0_ n1_ n2_ n3_;(try clear hb);(try clear hb2);(try clear hk);(try clear hi);(try clear ho0))|((with_reducible refine zE (N:=9) rfl ?_);(try (refine z1n zz88 ?_;dsimp only));refine Kd.z34 (Kd.int .u64) _ 33 ?hg (N:=9) ?hd (xs:=([3,5,6] : List Int)) (inner:=[.int .u64 3,.int .u64 5,.int .u64 6]) (ok:=fun _=>True) (okp:=fun _=>True) ?hr ?hp (fun _ hk=>hk) trivial (Below.refl _ _) (Nat.le_refl _) zz87 ?_;(case hd=>rfl);(case hg=>rfl);(case hr=>first|(go_simp;done)|(go_simp;rfl));(case hp=>exact (Reps.one (show Kd.M (Kd.int .u64) _ _ _ 3 [.int .u64 3] from rfl) (Reps.one (show Kd.M (Kd.int .u64) _ _ _ 5 [.int .u64 5] from rfl) (Reps.one (show Kd.M (Kd.int .u64) _ _ _ 6 [.int .u64 6] from rfl) (Reps.none _ _)))));intro v112 w47 ho48 hb hg_ hnew_;clear hg_ hnew_;(first|rw [← Ny111.out] at ho48|(simp only [Int.reduceToNat] at ho48;rw [← Ny111.out] at ho48));have n0_:=z1.mk (Kd.zU zz58 (Kd.z1o ho48) hb);have n1_:=z1.mk (Kd.zs zz59 hb);have n2_:=z1.mk (Kd.zs zz60 hb);have n3_:=z1.mk (Kd.z1q (Kd.z1p ho48 (Kd.R_lt zz58)) (zf zz47));have n4_:=z1.mk (ze zz47 hb);clear HO103;clear HO106;clear HO110;clear HB;have HO103:=n0_;have HO106:=n1_;have HO110:=n2_;have HO113:=n3_;have HB:=n4_;clear n0_ n1_ n2_ n3_ n4_;clear hb ho48;obtain ⟨Ao49,co49,eo49⟩:=Kd.z1e HO113.out;subst eo49)|((with_reducible refine zo (f:=41) rfl ?_);refine goesL_ (some 10) rfl rfl Try.func41 zz84 rfl #[.slice Ao49 y111.length co49] rfl zz45 ?_;(with_reducible refine (zn.calls k _ _ y111 t114 _ ?side1 ?side2 A3.out).mono ?_);(case side1=>repeat (first|exact (Kd.zA HO113.out).2.2|(with_reducible refine Kd.z15 ?_ _)|(with_reducible refine Kd.z16 ?_ _)|(with_reducible refine Kd.z1m ?_)));(case side2=>exact (Kd.zA HO113.out).2.1);rintro e w50 ⟨v115,rfl,ho0,hb⟩;refine ⟨_,rfl,?_⟩;have n0_:=z1.mk (Kd.zs zz58 hb);have n1_:=z1.mk (Kd.zU zz59 (Kd.z1o ho0) hb);have n2_:=z1.mk (Kd.zU zz60 (Kd.z1o ho0) hb);have n3_:=z1.mk (Kd.zs zz61 hb);have n4_:=z1.mk (Kd.z1q (Kd.z1p (Kd.z1p ho0 (Kd.R_lt zz59)) (Kd.R_lt zz60)) (zf zz47));have n5_:=z1.mk (ze zz47 hb);clear HO103;clear HO106;clear HO110;clear HO113;clear HB;have HO103:=n0_;have HO106:=n1_;have HO110:=n2_;have HO113:=n3_;have HO116:=n4_;have HB:=n5_;clear n0_ n1_ n2_ n3_ n4_ n5_;(try clear hb);(try clear hb2);(try clear hk);(try clear hi);(try clear ho0);obtain ⟨Ao51,co51,eo51⟩:=Kd.z1e HO116.out;subst eo51)|((with_reducible refine zo (f:=42) rfl ?_);refine goesL_ (some 11) rfl rfl Try.func42 zz84 rfl #[.slice Ao51 t114.length co51] rfl zz45 ?_;(with_reducible refine (z17.calls k _ _ t114 t117 _ ?side1 ?side2 A4.out).mono ?_);(case side1=>repeat (first|exact (Kd.zA HO116.out).2.2|(with_reducible refine Kd.z15 ?_ _)|(with_reducible refine Kd.z16 ?_ _)|(with_reducible refine Kd.z1m ?_)));(case side2=>exact (Kd.zA HO116.out).2.1);rintro e w52 ⟨v118,rfl,ho0,hb⟩;refine ⟨_,rfl,?_⟩;have n0_:=z1.mk (Kd.zs zz58 hb);have n1_:=z1.mk (Kd.zU zz59 (Kd.z1o ho0) hb);have n2_:=z1.mk (Kd.zU zz60 (Kd.z1o ho0) hb);have n3_:=z1.mk (Kd.zs zz61 hb);have n4_:=z1.mk (Kd.zU zz62 (Kd.z1o ho0) hb);have n5_:=z1.mk (Kd.z1q (Kd.z1p (Kd.z1p (Kd.z1p ho0 (Kd.R_lt zz59)) (Kd.R_lt zz60)) (Kd.R_lt zz62)) (zf zz47));have n6_:=z1.mk (ze zz47 hb);clear HO103;clear HO106;clear HO110;clear HO113;clear HO116;clear HB;have HO103:=n0_;have HO106:=n1_;have HO110:=n2_;have HO113:=n3_;have HO116:=n4_;have HO119:=n5_;have HB:=n6_;clear n0_ n1_ n2_ n3_ n4_ n5_ n6_;(try clear hb);(try clear hb2);(try clear hk);(try clear hi);(try clear ho0))|((with_reducible refine zE (N:=12) rfl ?_);(try (refine z1n zz88 ?_;dsimp only));refine Kd.z34 (Kd.int .u64) _ 33 ?hg (N:=12) ?hd (xs:=([5,3] : List Int)) (inner:=[.int .u64 5,.int .u64 3]) (ok:=fun _=>True) (okp:=fun _=>True) ?hr ?hp (fun _ hk=>hk) trivial (Below.refl _ _) (Nat.le_refl _) zz87 ?_;(case hd=>rfl);(case hg=>rfl);(case hr=>first|(go_simp;done)|(go_simp;rfl));(case hp=>exact (Reps.one (show Kd.M (Kd.int .u64) _ _ _ 5 [.int .u64 5] from rfl) (Reps.one (show Kd.M (Kd.int .u64) _ _ _ 3 [.int .u64 3] from rfl) (Reps.none _ _))));intro v121 w53 ho54 hb hg_ hnew_;clear hg_ hnew_;(first|rw [← Ny120.out] at ho54|(simp only [Int.reduceToNat] at ho54;rw [← Ny120.out] at ho54));have n0_:=z1.mk (Kd.zU zz58 (Kd.z1o ho54) hb);have n1_:=z1.mk (Kd.zs zz59 hb);have n2_:=z1.mk (Kd.zs zz60 hb);have n3_:=z1.mk (Kd.zU zz61 (Kd.z1o ho54) hb);have n4_:=z1.mk (Kd.zs zz62 hb);have n5_:=z1.mk (Kd.zs zz63 hb);have n6_:=z1.mk (Kd.z1q (Kd.z1p (Kd.z1p ho54 (Kd.R_lt zz58)) (Kd.R_lt zz61)) (zf zz47));have n7_:=z1.mk (ze zz47 hb);clear HO103;clear HO106;clear HO110;clear HO113;clear HO116;clear HO119;clear HB;have HO103:=n0_;have HO106:=n1_;have HO110:=n2_;have HO113:=n3_;have HO116:=n4_;have HO119:=n5_;have HO122:=n6_;have HB:=n7_;clear n0_ n1_ n2_ n3_ n4_ n5_ n6_ n7_;clear hb ho54;obtain ⟨Ao55,co55,eo55⟩:=Kd.z1e HO122.out;subst eo55)|((with_reducible refine zo (f:=41) rfl ?_);refine goesL_ (some 13) rfl rfl Try.func41 zz84 rfl #[.slice Ao55 y120.length co55] rfl zz45 ?_;(with_reducible refine (zn.calls k _ _ y120 t123 _ ?side1 ?side2 A5.out).mono ?_);(case side1=>repeat (first|exact (Kd.zA HO122.out).2.2|(with_reducible refine Kd.z15 ?_ _)|(with_reducible refine Kd.z16 ?_ _)|(with_reducible refine Kd.z1m ?_)));(case side2=>exact (Kd.zA HO122.out).2.1);rintro e w56 ⟨v124,rfl,ho0,hb⟩;refine ⟨_,rfl,?_⟩;have n0_:=z1.mk (Kd.zs zz58 hb);have n1_:=z1.mk (Kd.zU zz59 (Kd.z1o ho0) hb);have n2_:=z1.mk (Kd.zU zz60 (Kd.z1o ho0) hb);have n3_:=z1.mk (Kd.zs zz61 hb);have n4_:=z1.mk (Kd.zU zz62 (Kd.z1o ho0) hb);have n5_:=z1.mk (Kd.zU zz63 (Kd.z1o ho0) hb);have n6_:=z1.mk (Kd.zs zz64 hb);have n7_:=z1.mk (Kd.z1q (Kd.z1p (Kd.z1p (Kd.z1p (Kd.z1p ho0 (Kd.R_lt zz59)) (Kd.R_lt zz60)) (Kd.R_lt zz62)) (Kd.R_lt zz63)) (zf zz47));have n8_:=z1.mk (ze zz47 hb);clear HO103;clear HO106;clear HO110;clear HO113;clear HO116;clear HO119;clear HO122;clear HB;have HO103:=n0_;have HO106:=n1_;have HO110:=n2_;have HO113:=n3_;have HO116:=n4_;have HO119:=n5_;have HO122:=n6_;have HO125:=n7_;have HB:=n8_;clear n0_ n1_ n2_ n3_ n4_ n5_ n6_ n7_ n8_;(try clear hb);(try clear hb2);(try clear hk);(try clear hi);(try clear ho0);obtain ⟨Ao57,co57,eo57⟩:=Kd.z1e HO125.out;subst eo57)|((with_reducible refine zo (f:=13) rfl ?_);refine goesL_ (some 14) rfl rfl Try.func13 zz84 rfl #[.slice Ao57 t123.length co57] rfl zz45 ?_;(with_reducible refine (zg.calls k _ _ t123 t126 _ ?side1 ?side2 A6.out).mono ?_);(case side1=>repeat (first|exact (Kd.zA HO125.out).2.2|(with_reducible refine Kd.z15 ?_ _)|(with_reducible refine Kd.z16 ?_ _)|(with_reducible refine Kd.z1m ?_)));(case side2=>exact (Kd.zA HO125.out).2.1);rintro e w58 ⟨v127,rfl,ho0,hb⟩;refine ⟨_,rfl,?_⟩;have n0_:=z1.mk (Kd.zs zz58 hb);have n1_:=z1.mk (Kd.zs zz59 hb);have n2_:=z1.mk (Kd.zs zz60 hb);have n3_:=z1.mk (Kd.zs zz61 hb);have n4_:=z1.mk (Kd.zs zz62 hb);have n5_:=z1.mk (Kd.zs zz63 hb);have n6_:=z1.mk (Kd.zs zz64 hb);have n7_:=z1.mk (Kd.zs zz65 hb);have n8_:=z1.mk (Kd.z1q ho0 (zf zz47));have n9_:=z1.mk (ze zz47 hb);clear HO103;clear HO106;clear HO110;clear HO113;clear HO116;clear HO119;clear HO122;clear HO125;clear HB;have HO103:=n0_;have HO106:=n1_;have HO110:=n2_;have HO113:=n3_;have HO116:=n4_;have HO119:=n5_;have HO122:=n6_;have HO125:=n7_;have HO128:=n8_;have HB:=n9_;clear n0_ n1_ n2_ n3_ n4_ n5_ n6_ n7_ n8_ n9_;(try clear hb);(try clear hb2);(try clear hk);(try clear hi);(try clear ho0);obtain ⟨Ao59,co59,eo59⟩:=Kd.z1e HO119.out;subst eo59;obtain ⟨Ao60,co60,eo60⟩:=Kd.z1e HO128.out;subst eo60)|((with_reducible refine zo (f:=14) rfl ?_);refine goesL_ (some 15) rfl rfl Try.func14 zz84 rfl #[.slice Ao59 t117.length co59,.slice Ao60 t126.length co60] rfl zz45 ?_;(with_reducible refine (zh.calls k _ _ t117 _ _ t126 true _ ?side1 ?side2 ?side3 ?side4 A7.out).mono ?_);(case side1=>repeat (first|exact (Kd.zA HO119.out).2.2|(with_reducible refine Kd.z15 ?_ _)|(with_reducible refine Kd.z16 ?_ _)|(with_reducible refine Kd.z1m ?_)));(case side2=>exact (Kd.zA HO119.out).2.1);(case side3=>repeat (first|exact (Kd.zA HO128.out).2.2|(with_reducible refine Kd.z15 ?_ _)|(with_reducible refine Kd.z16 ?_ _)|(with_reducible refine Kd.z1m ?_)));(case side4=>exact (Kd.zA HO128.out).2.1);rintro e w' ⟨rfl,⟨nd,rfl⟩⟩;refine ⟨_,rfl,?_⟩))
   go_ret
   exact ⟨by first|rfl|(simp [zi,zj] <;> rfl)|(simp [*,zi,zj] <;> rfl),by repeat (first|(with_reducible first|exact HB.out|apply zd|apply z3|apply zc)|exact HB.out)⟩
 rw [if_pos c9] at H
 have c9b0 : (t108 == 0) = true:=beq_iff_eq.mpr c9
 have c9b1 : (t108 != 0) = false:=bne_eq_false_iff_eq.mpr c9
 clear c9
 obtain ⟨y130,hy130⟩ : ∃ y_ : List Int,y_ = (([3,2] : List Int)):=⟨_,rfl⟩
 replace H : ((zn.f k y130).bind fun t133=>((zg.f k t133).bind fun t136=>((zh.f k t107 t136).bind fun t139=>(some t139)))) = some r:=by first|(rw [hy130];with_reducible exact H)|(have H2_:=(Option.bind_some _ _).symm.trans H;rw [hy130];with_reducible exact H2_)|(have H2_:=(Option.bind_some _ _).symm.trans H;with_reducible exact H2_)|with_reducible exact H|(rw [hy130];exact H)|exact H
 have Ny130:=z1.mk hy130
 clear hy130
 replace H:=Option.bind_eq_some_iff.mp H
 obtain ⟨t133,A100,H⟩:=H
 replace H : ((zg.f k t133).bind fun t136=>((zh.f k t107 t136).bind fun t139=>(some t139))) = some r:=H
 have A10:=z1.mk A100
 clear A100
 replace H:=Option.bind_eq_some_iff.mp H
 obtain ⟨t136,A110,H⟩:=H
 replace H : ((zh.f k t107 t136).bind fun t139=>(some t139)) = some r:=H
 have A11:=z1.mk A110
 clear A110
 replace H:=Option.bind_eq_some_iff.mp H
 obtain ⟨t139,A120,H⟩:=H
 replace H : (some t139) = some r:=H
 have A12:=z1.mk A120
 clear A120
 obtain rfl:=Option.some.inj H
 go_enter Try.func10,Try.ntmps10
 go_wp2_with (first|((with_reducible refine zE (N:=4) rfl ?_);(try (refine z1n zz88 ?_;dsimp only));refine Kd.z34 (Kd.int .u64) _ 33 ?hg (N:=4) ?hd (xs:=([1,3] : List Int)) (inner:=[.int .u64 1,.int .u64 3]) (ok:=fun _=>True) (okp:=fun _=>True) ?hr ?hp (fun _ hk=>hk) trivial (Below.refl _ _) (Nat.le_refl _) zz87 ?_;(case hd=>rfl);(case hg=>rfl);(case hr=>first|(go_simp;done)|(go_simp;rfl));(case hp=>exact (Reps.one (show Kd.M (Kd.int .u64) _ _ _ 1 [.int .u64 1] from rfl) (Reps.one (show Kd.M (Kd.int .u64) _ _ _ 3 [.int .u64 3] from rfl) (Reps.none _ _))));intro v102 w13 ho14 hb hg_ hnew_;clear hg_ hnew_;(first|rw [← Ny101.out] at ho14|(simp only [Int.reduceToNat] at ho14;rw [← Ny101.out] at ho14));have n0_:=z1.mk (Kd.z1q ho14 (zf zz47));have n1_:=z1.mk (ze zz47 hb);clear HB;have HO103:=n0_;have HB:=n1_;clear n0_ n1_;clear hb ho14;obtain ⟨Ao15,co15,eo15⟩:=Kd.z1e HO103.out;subst eo15)|((with_reducible refine zo (f:=41) rfl ?_);refine goesL_ (some 5) rfl rfl Try.func41 zz84 rfl #[.slice Ao15 y101.length co15] rfl zz45 ?_;(with_reducible refine (zn.calls k _ _ y101 t104 _ ?side1 ?side2 A1.out).mono ?_);(case side1=>repeat (first|exact (Kd.zA HO103.out).2.2|(with_reducible refine Kd.z15 ?_ _)|(with_reducible refine Kd.z16 ?_ _)|(with_reducible refine Kd.z1m ?_)));(case side2=>exact (Kd.zA HO103.out).2.1);rintro e w16 ⟨v105,rfl,ho0,hb⟩;refine ⟨_,rfl,?_⟩;have n0_:=z1.mk (Kd.zs zz58 hb);have n1_:=z1.mk (Kd.z1q ho0 (zf zz47));have n2_:=z1.mk (ze zz47 hb);clear HO103;clear HB;have HO103:=n0_;have HO106:=n1_;have HB:=n2_;clear n0_ n1_ n2_;(try clear hb);(try clear hb2);(try clear hk);(try clear hi);(try clear ho0);obtain ⟨Ao17,co17,eo17⟩:=Kd.z1e HO106.out;subst eo17)|((with_reducible refine zo (f:=11) rfl ?_);refine goesL_ (some 6) rfl rfl Try.func11 zz84 rfl #[.slice Ao17 t104.length co17,.int .i64 2] rfl zz45 ?_;(with_reducible refine (zz.calls k _ _ t104 2 t107 t108 _ ?side1 ?side2 A2.out).mono ?_);(case side1=>repeat (first|exact (Kd.zA HO106.out).2.2|(with_reducible refine Kd.z15 ?_ _)|(with_reducible refine Kd.z16 ?_ _)|(with_reducible refine Kd.z1m ?_)));(case side2=>exact (Kd.zA HO106.out).2.1);rintro e w18 ⟨v109,rfl,ho0,hb⟩;refine ⟨_,rfl,?_⟩;have n0_:=z1.mk (Kd.zs zz58 hb);have n1_:=z1.mk (Kd.zU zz59 (Kd.z1o ho0) hb);have n2_:=z1.mk (Kd.z1q (Kd.z1p ho0 (Kd.R_lt zz59)) (zf zz47));have n3_:=z1.mk (ze zz47 hb);clear HO103;clear HO106;clear HB;have HO103:=n0_;have HO106:=n1_;have HO110:=n2_;have HB:=n3_;clear n0_ n1_ n2_ n3_;(try clear hb);(try clear hb2);(try clear hk);(try clear hi);(try clear ho0))|((with_reducible refine zE (N:=9) rfl ?_);(try (refine z1n zz88 ?_;dsimp only));refine Kd.z34 (Kd.int .u64) _ 33 ?hg (N:=9) ?hd (xs:=([3,5,6] : List Int)) (inner:=[.int .u64 3,.int .u64 5,.int .u64 6]) (ok:=fun _=>True) (okp:=fun _=>True) ?hr ?hp (fun _ hk=>hk) trivial (Below.refl _ _) (Nat.le_refl _) zz87 ?_;(case hd=>rfl);(case hg=>rfl);(case hr=>first|(go_simp;done)|(go_simp;rfl));(case hp=>exact (Reps.one (show Kd.M (Kd.int .u64) _ _ _ 3 [.int .u64 3] from rfl) (Reps.one (show Kd.M (Kd.int .u64) _ _ _ 5 [.int .u64 5] from rfl) (Reps.one (show Kd.M (Kd.int .u64) _ _ _ 6 [.int .u64 6] from rfl) (Reps.none _ _)))));intro v112 w19 ho20 hb hg_ hnew_;clear hg_ hnew_;(first|rw [← Ny111.out] at ho20|(simp only [Int.reduceToNat] at ho20;rw [← Ny111.out] at ho20));have n0_:=z1.mk (Kd.zU zz58 (Kd.z1o ho20) hb);have n1_:=z1.mk (Kd.zs zz59 hb);have n2_:=z1.mk (Kd.zs zz60 hb);have n3_:=z1.mk (Kd.z1q (Kd.z1p ho20 (Kd.R_lt zz58)) (zf zz47));have n4_:=z1.mk (ze zz47 hb);clear HO103;clear HO106;clear HO110;clear HB;have HO103:=n0_;have HO106:=n1_;have HO110:=n2_;have HO113:=n3_;have HB:=n4_;clear n0_ n1_ n2_ n3_ n4_;clear hb ho20;obtain ⟨Ao21,co21,eo21⟩:=Kd.z1e HO113.out;subst eo21)|((with_reducible refine zo (f:=41) rfl ?_);refine goesL_ (some 10) rfl rfl Try.func41 zz84 rfl #[.slice Ao21 y111.length co21] rfl zz45 ?_;(with_reducible refine (zn.calls k _ _ y111 t114 _ ?side1 ?side2 A3.out).mono ?_);(case side1=>repeat (first|exact (Kd.zA HO113.out).2.2|(with_reducible refine Kd.z15 ?_ _)|(with_reducible refine Kd.z16 ?_ _)|(with_reducible refine Kd.z1m ?_)));(case side2=>exact (Kd.zA HO113.out).2.1);rintro e w22 ⟨v115,rfl,ho0,hb⟩;refine ⟨_,rfl,?_⟩;have n0_:=z1.mk (Kd.zs zz58 hb);have n1_:=z1.mk (Kd.zU zz59 (Kd.z1o ho0) hb);have n2_:=z1.mk (Kd.zU zz60 (Kd.z1o ho0) hb);have n3_:=z1.mk (Kd.zs zz61 hb);have n4_:=z1.mk (Kd.z1q (Kd.z1p (Kd.z1p ho0 (Kd.R_lt zz59)) (Kd.R_lt zz60)) (zf zz47));have n5_:=z1.mk (ze zz47 hb);clear HO103;clear HO106;clear HO110;clear HO113;clear HB;have HO103:=n0_;have HO106:=n1_;have HO110:=n2_;have HO113:=n3_;have HO116:=n4_;have HB:=n5_;clear n0_ n1_ n2_ n3_ n4_ n5_;(try clear hb);(try clear hb2);(try clear hk);(try clear hi);(try clear ho0);obtain ⟨Ao23,co23,eo23⟩:=Kd.z1e HO116.out;subst eo23)|((with_reducible refine zo (f:=42) rfl ?_);refine goesL_ (some 11) rfl rfl Try.func42 zz84 rfl #[.slice Ao23 t114.length co23] rfl zz45 ?_;(with_reducible refine (z17.calls k _ _ t114 t117 _ ?side1 ?side2 A4.out).mono ?_);(case side1=>repeat (first|exact (Kd.zA HO116.out).2.2|(with_reducible refine Kd.z15 ?_ _)|(with_reducible refine Kd.z16 ?_ _)|(with_reducible refine Kd.z1m ?_)));(case side2=>exact (Kd.zA HO116.out).2.1);rintro e w24 ⟨v118,rfl,ho0,hb⟩;refine ⟨_,rfl,?_⟩;have n0_:=z1.mk (Kd.zs zz58 hb);have n1_:=z1.mk (Kd.zU zz59 (Kd.z1o ho0) hb);have n2_:=z1.mk (Kd.zU zz60 (Kd.z1o ho0) hb);have n3_:=z1.mk (Kd.zs zz61 hb);have n4_:=z1.mk (Kd.zU zz62 (Kd.z1o ho0) hb);have n5_:=z1.mk (Kd.z1q (Kd.z1p (Kd.z1p (Kd.z1p ho0 (Kd.R_lt zz59)) (Kd.R_lt zz60)) (Kd.R_lt zz62)) (zf zz47));have n6_:=z1.mk (ze zz47 hb);clear HO103;clear HO106;clear HO110;clear HO113;clear HO116;clear HB;have HO103:=n0_;have HO106:=n1_;have HO110:=n2_;have HO113:=n3_;have HO116:=n4_;have HO119:=n5_;have HB:=n6_;clear n0_ n1_ n2_ n3_ n4_ n5_ n6_;(try clear hb);(try clear hb2);(try clear hk);(try clear hi);(try clear ho0))|((with_reducible refine zE (N:=12) rfl ?_);(try (refine z1n zz88 ?_;dsimp only));refine Kd.z34 (Kd.int .u64) _ 33 ?hg (N:=12) ?hd (xs:=([5,3] : List Int)) (inner:=[.int .u64 5,.int .u64 3]) (ok:=fun _=>True) (okp:=fun _=>True) ?hr ?hp (fun _ hk=>hk) trivial (Below.refl _ _) (Nat.le_refl _) zz87 ?_;(case hd=>rfl);(case hg=>rfl);(case hr=>first|(go_simp;done)|(go_simp;rfl));(case hp=>exact (Reps.one (show Kd.M (Kd.int .u64) _ _ _ 5 [.int .u64 5] from rfl) (Reps.one (show Kd.M (Kd.int .u64) _ _ _ 3 [.int .u64 3] from rfl) (Reps.none _ _))));intro v121 w25 ho26 hb hg_ hnew_;clear hg_ hnew_;(first|rw [← Ny120.out] at ho26|(simp only [Int.reduceToNat] at ho26;rw [← Ny120.out] at ho26));have n0_:=z1.mk (Kd.zU zz58 (Kd.z1o ho26) hb);have n1_:=z1.mk (Kd.zs zz59 hb);have n2_:=z1.mk (Kd.zs zz60 hb);have n3_:=z1.mk (Kd.zU zz61 (Kd.z1o ho26) hb);have n4_:=z1.mk (Kd.zs zz62 hb);have n5_:=z1.mk (Kd.zs zz63 hb);have n6_:=z1.mk (Kd.z1q (Kd.z1p (Kd.z1p ho26 (Kd.R_lt zz58)) (Kd.R_lt zz61)) (zf zz47));have n7_:=z1.mk (ze zz47 hb);clear HO103;clear HO106;clear HO110;clear HO113;clear HO116;clear HO119;clear HB;have HO103:=n0_;have HO106:=n1_;have HO110:=n2_;have HO113:=n3_;have HO116:=n4_;have HO119:=n5_;have HO122:=n6_;have HB:=n7_;clear n0_ n1_ n2_ n3_ n4_ n5_ n6_ n7_;clear hb ho26;obtain ⟨Ao27,co27,eo27⟩:=Kd.z1e HO122.out;subst eo27)|((with_reducible refine zo (f:=41) rfl ?_);refine goesL_ (some 13) rfl rfl Try.func41 zz84 rfl #[.slice Ao27 y120.length co27] rfl zz45 ?_;(with_reducible refine (zn.calls k _ _ y120 t123 _ ?side1 ?side2 A5.out).mono ?_);(case side1=>repeat (first|exact (Kd.zA HO122.out).2.2|(with_reducible refine Kd.z15 ?_ _)|(with_reducible refine Kd.z16 ?_ _)|(with_reducible refine Kd.z1m ?_)));(case side2=>exact (Kd.zA HO122.out).2.1);rintro e w28 ⟨v124,rfl,ho0,hb⟩;refine ⟨_,rfl,?_⟩;have n0_:=z1.mk (Kd.zs zz58 hb);have n1_:=z1.mk (Kd.zU zz59 (Kd.z1o ho0) hb);have n2_:=z1.mk (Kd.zU zz60 (Kd.z1o ho0) hb);have n3_:=z1.mk (Kd.zs zz61 hb);have n4_:=z1.mk (Kd.zU zz62 (Kd.z1o ho0) hb);have n5_:=z1.mk (Kd.zU zz63 (Kd.z1o ho0) hb);have n6_:=z1.mk (Kd.zs zz64 hb);have n7_:=z1.mk (Kd.z1q (Kd.z1p (Kd.z1p (Kd.z1p (Kd.z1p ho0 (Kd.R_lt zz59)) (Kd.R_lt zz60)) (Kd.R_lt zz62)) (Kd.R_lt zz63)) (zf zz47));have n8_:=z1.mk (ze zz47 hb);clear HO103;clear HO106;clear HO110;clear HO113;clear HO116;clear HO119;clear HO122;clear HB;have HO103:=n0_;have HO106:=n1_;have HO110:=n2_;have HO113:=n3_;have HO116:=n4_;have HO119:=n5_;have HO122:=n6_;have HO125:=n7_;have HB:=n8_;clear n0_ n1_ n2_ n3_ n4_ n5_ n6_ n7_ n8_;(try clear hb);(try clear hb2);(try clear hk);(try clear hi);(try clear ho0);obtain ⟨Ao29,co29,eo29⟩:=Kd.z1e HO125.out;subst eo29)|((with_reducible refine zo (f:=13) rfl ?_);refine goesL_ (some 14) rfl rfl Try.func13 zz84 rfl #[.slice Ao29 t123.length co29] rfl zz45 ?_;(with_reducible refine (zg.calls k _ _ t123 t126 _ ?side1 ?side2 A6.out).mono ?_);(case side1=>repeat (first|exact (Kd.zA HO125.out).2.2|(with_reducible refine Kd.z15 ?_ _)|(with_reducible refine Kd.z16 ?_ _)|(with_reducible refine Kd.z1m ?_)));(case side2=>exact (Kd.zA HO125.out).2.1);rintro e w30 ⟨v127,rfl,ho0,hb⟩;refine ⟨_,rfl,?_⟩;have n0_:=z1.mk (Kd.zs zz58 hb);have n1_:=z1.mk (Kd.zs zz59 hb);have n2_:=z1.mk (Kd.zs zz60 hb);have n3_:=z1.mk (Kd.zs zz61 hb);have n4_:=z1.mk (Kd.zs zz62 hb);have n5_:=z1.mk (Kd.zs zz63 hb);have n6_:=z1.mk (Kd.zs zz64 hb);have n7_:=z1.mk (Kd.zs zz65 hb);have n8_:=z1.mk (Kd.z1q ho0 (zf zz47));have n9_:=z1.mk (ze zz47 hb);clear HO103;clear HO106;clear HO110;clear HO113;clear HO116;clear HO119;clear HO122;clear HO125;clear HB;have HO103:=n0_;have HO106:=n1_;have HO110:=n2_;have HO113:=n3_;have HO116:=n4_;have HO119:=n5_;have HO122:=n6_;have HO125:=n7_;have HO128:=n8_;have HB:=n9_;clear n0_ n1_ n2_ n3_ n4_ n5_ n6_ n7_ n8_ n9_;(try clear hb);(try clear hb2);(try clear hk);(try clear hi);(try clear ho0);obtain ⟨Ao31,co31,eo31⟩:=Kd.z1e HO119.out;subst eo31;obtain ⟨Ao32,co32,eo32⟩:=Kd.z1e HO128.out;subst eo32)|((with_reducible refine zo (f:=14) rfl ?_);refine goesL_ (some 15) rfl rfl Try.func14 zz84 rfl #[.slice Ao31 t117.length co31,.slice Ao32 t126.length co32] rfl zz45 ?_;(with_reducible refine (zh.calls k _ _ t117 _ _ t126 true _ ?side1 ?side2 ?side3 ?side4 A7.out).mono ?_);(case side1=>repeat (first|exact (Kd.zA HO119.out).2.2|(with_reducible refine Kd.z15 ?_ _)|(with_reducible refine Kd.z16 ?_ _)|(with_reducible refine Kd.z1m ?_)));(case side2=>exact (Kd.zA HO119.out).2.1);(case side3=>repeat (first|exact (Kd.zA HO128.out).2.2|(with_reducible refine Kd.z15 ?_ _)|(with_reducible refine Kd.z16 ?_ _)|(with_reducible refine Kd.z1m ?_)));(case side4=>exact (Kd.zA HO128.out).2.1);rintro e w' ⟨rfl,⟨nd,rfl⟩⟩;refine ⟨_,rfl,?_⟩)|((with_reducible refine zE (N:=22) rfl ?_);(try (refine z1n zz88 ?_;dsimp only));refine Kd.z34 (Kd.int .u64) _ 33 ?hg (N:=22) ?hd (xs:=([3,2] : List Int)) (inner:=[.int .u64 3,.int .u64 2]) (ok:=fun _=>True) (okp:=fun _=>True) ?hr ?hp (fun _ hk=>hk) trivial (Below.refl _ _) (Nat.le_refl _) zz87 ?_;(case hd=>rfl);(case hg=>rfl);(case hr=>first|(go_simp;done)|(go_simp;rfl));(case hp=>exact (Reps.one (show Kd.M (Kd.int .u64) _ _ _ 3 [.int .u64 3] from rfl) (Reps.one (show Kd.M (Kd.int .u64) _ _ _ 2 [.int .u64 2] from rfl) (Reps.none _ _))));intro v131 w33 ho34 hb hg_ hnew_;clear hg_ hnew_;(first|rw [← Ny130.out] at ho34|(simp only [Int.reduceToNat] at ho34;rw [← Ny130.out] at ho34));have n0_:=z1.mk (Kd.zU zz58 (Kd.z1o ho34) hb);have n1_:=z1.mk (Kd.zs zz59 hb);have n2_:=z1.mk (Kd.zs zz60 hb);have n3_:=z1.mk (Kd.zU zz61 (Kd.z1o ho34) hb);have n4_:=z1.mk (Kd.zs zz62 hb);have n5_:=z1.mk (Kd.zs zz63 hb);have n6_:=z1.mk (Kd.zU zz64 (Kd.z1o ho34) hb);have n7_:=z1.mk (Kd.zs zz65 hb);have n8_:=z1.mk (Kd.zs zz66 hb);have n9_:=z1.mk (Kd.z1q (Kd.z1p (Kd.z1p (Kd.z1p ho34 (Kd.R_lt zz58)) (Kd.R_lt zz61)) (Kd.R_lt zz64)) (zf zz47));have n10_:=z1.mk (ze zz47 hb);clear HO103;clear HO106;clear HO110;clear HO113;clear HO116;clear HO119;clear HO122;clear HO125;clear HO128;clear HB;have HO103:=n0_;have HO106:=n1_;have HO110:=n2_;have HO113:=n3_;have HO116:=n4_;have HO119:=n5_;have HO122:=n6_;have HO125:=n7_;have HO128:=n8_;have HO132:=n9_;have HB:=n10_;clear n0_ n1_ n2_ n3_ n4_ n5_ n6_ n7_ n8_ n9_ n10_;clear hb ho34;obtain ⟨Ao35,co35,eo35⟩:=Kd.z1e HO132.out;subst eo35)|(go_at_call 41;(with_reducible refine (zn.calls k _ _ y130 t133 _ ?side1 ?side2 A10.out).mono ?_);(case side1=>repeat (first|exact (Kd.zA HO132.out).2.2|(with_reducible refine Kd.z15 ?_ _)|(with_reducible refine Kd.z16 ?_ _)|(with_reducible refine Kd.z1m ?_)));(case side2=>exact (Kd.zA HO132.out).2.1);rintro e w36 ⟨v134,rfl,ho0,hb⟩;have n0_:=z1.mk (Kd.zs zz58 hb);have n1_:=z1.mk (Kd.zU zz59 (Kd.z1o ho0) hb);have n2_:=z1.mk (Kd.zU zz60 (Kd.z1o ho0) hb);have n3_:=z1.mk (Kd.zs zz61 hb);have n4_:=z1.mk (Kd.zU zz62 (Kd.z1o ho0) hb);have n5_:=z1.mk (Kd.zU zz63 (Kd.z1o ho0) hb);have n6_:=z1.mk (Kd.zs zz64 hb);have n7_:=z1.mk (Kd.zU zz65 (Kd.z1o ho0) hb);have n8_:=z1.mk (Kd.zs zz66 hb);have n9_:=z1.mk (Kd.zs zz67 hb);have n10_:=z1.mk (Kd.z1q (Kd.z1p (Kd.z1p (Kd.z1p (Kd.z1p (Kd.z1p ho0 (Kd.R_lt zz59)) (Kd.R_lt zz60)) (Kd.R_lt zz62)) (Kd.R_lt zz63)) (Kd.R_lt zz65)) (zf zz47));have n11_:=z1.mk (ze zz47 hb);clear HO103;clear HO106;clear HO110;clear HO113;clear HO116;clear HO119;clear HO122;clear HO125;clear HO128;clear HO132;clear HB;have HO103:=n0_;have HO106:=n1_;have HO110:=n2_;have HO113:=n3_;have HO116:=n4_;have HO119:=n5_;have HO122:=n6_;have HO125:=n7_;have HO128:=n8_;have HO132:=n9_;have HO135:=n10_;have HB:=n11_;clear n0_ n1_ n2_ n3_ n4_ n5_ n6_ n7_ n8_ n9_ n10_ n11_;(try clear hb);(try clear hb2);(try clear hk);(try clear hi);(try clear ho0);obtain ⟨Ao37,co37,eo37⟩:=Kd.z1e HO135.out;subst eo37)|(go_at_call 13;(with_reducible refine (zg.calls k _ _ t133 t136 _ ?side1 ?side2 A11.out).mono ?_);(case side1=>repeat (first|exact (Kd.zA HO135.out).2.2|(with_reducible refine Kd.z15 ?_ _)|(with_reducible refine Kd.z16 ?_ _)|(with_reducible refine Kd.z1m ?_)));(case side2=>exact (Kd.zA HO135.out).2.1);rintro e w38 ⟨v137,rfl,ho0,hb⟩;have n0_:=z1.mk (Kd.zs zz58 hb);have n1_:=z1.mk (Kd.zs zz59 hb);have n2_:=z1.mk (Kd.zs zz60 hb);have n3_:=z1.mk (Kd.zs zz61 hb);have n4_:=z1.mk (Kd.zs zz62 hb);have n5_:=z1.mk (Kd.zs zz63 hb);have n6_:=z1.mk (Kd.zs zz64 hb);have n7_:=z1.mk (Kd.zs zz65 hb);have n8_:=z1.mk (Kd.zU zz66 (Kd.z1o ho0) hb);have n9_:=z1.mk (Kd.zs zz67 hb);have n10_:=z1.mk (Kd.zs (by (with_reducible repeat (first|apply Kd.zL|apply Kd.zM|apply Kd.zS));exact HO135.out) hb);have n11_:=z1.mk (Kd.z1q (Kd.z1p ho0 (Kd.R_lt zz66)) (zf zz47));have n12_:=z1.mk (ze zz47 hb);clear HO103;clear HO106;clear HO110;clear HO113;clear HO116;clear HO119;clear HO122;clear HO125;clear HO128;clear HO132;clear HO135;clear HB;have HO103:=n0_;have HO106:=n1_;have HO110:=n2_;have HO113:=n3_;have HO116:=n4_;have HO119:=n5_;have HO122:=n6_;have HO125:=n7_;have HO128:=n8_;have HO132:=n9_;have HO135:=n10_;have HO138:=n11_;have HB:=n12_;clear n0_ n1_ n2_ n3_ n4_ n5_ n6_ n7_ n8_ n9_ n10_ n11_ n12_;(try clear hb);(try clear hb2);(try clear hk);(try clear hi);(try clear ho0);obtain ⟨Ao39,co39,eo39⟩:=Kd.z1e HO110.out;subst eo39;obtain ⟨Ao40,co40,eo40⟩:=Kd.z1e HO138.out;subst eo40)|(go_at_call 14;(with_reducible refine (zh.calls k _ _ t107 _ _ t136 t139 _ ?side1 ?side2 ?side3 ?side4 A12.out).mono ?_);(case side1=>repeat (first|exact (Kd.zA HO110.out).2.2|(with_reducible refine Kd.z15 ?_ _)|(with_reducible refine Kd.z16 ?_ _)|(with_reducible refine Kd.z1m ?_)));(case side2=>exact (Kd.zA HO110.out).2.1);(case side3=>repeat (first|exact (Kd.zA HO138.out).2.2|(with_reducible refine Kd.z15 ?_ _)|(with_reducible refine Kd.z16 ?_ _)|(with_reducible refine Kd.z1m ?_)));(case side4=>exact (Kd.zA HO138.out).2.1);rintro e w' ⟨rfl,⟨nd,rfl⟩⟩))
 go_ret
 exact ⟨by first|rfl|(simp [zi,zj] <;> rfl)|(simp [*,zi,zj] <;> rfl),by repeat (first|(with_reducible first|exact HB.out|apply zd|apply z3|apply zc)|exact HB.out)⟩
end Go.Proofs.Ytnhbdhgbmjcjdaa.P

/- Own text: merged by wip/tools/pack.py out of what the law SpanMaps reaches. -/
import Derived.Test.YtnhbdhgbmjcjdaaMSpanMapsb
import Derived.Test.YtnhbdhgbmjcjdaaMSpanMapsd
import Derived.Test.YtnhbdhgbmjcjdaaMSpanMapse
namespace Go.Proofs.Ytnhbdhgbmjcjdaa.P
open Go.RowKit Go.Proofs.YtnhbdhgbmjcjdaaW.PrintWords Go.Proofs.YtnhbdhgbmjcjdaaW.PrintLast Go.Proofs.YtnhbdhgbmjcjdaaW.PrintMore
attribute [local go_sem] z10 z12 z1h z1i zQ zR z11 z13   -- for this text's walks alone
set_option linter.unusedVariables false
set_option linter.unusedSimpArgs false
mutual
def zG.j0 : Nat → Int → Int → Int → Bool → Option (Int)
 | 0,_,_,_,_=>none
 | k + 1,x0,x1,x2,x23=>if x23 = true then (some (Go.bits .and .u64 (Go.bits .and .u64 x1 x2) 1)) else ((z1w.f x0 x1).bind fun bt101=>((z1w.f x0 x2).bind fun bt103=>((zG.f k (wrap64 (x0 - 1)) bt101.1 bt103.1).bind fun t105=>((zG.f k (wrap64 (x0 - 1)) bt101.2 bt103.2).bind fun t106=>((zG.f k (wrap64 (x0 - 1)) (Go.bits .xor .u64 bt101.1 bt101.2) (Go.bits .xor .u64 bt103.1 bt103.2)).bind fun t107=>((zO.f k (wrap64 (x0 - 1)) t105).bind fun t108=>((z1x.f x0 (Go.bits .xor .u64 (Go.bits .xor .u64 (Go.bits .xor .u64 t107 t105) t106) t108) (Go.bits .xor .u64 t106 t105)).bind fun t109=>(some t109))))))))
def zG.f : Nat → Int → Int → Int → Option (Int)
 | 0,_,_,_=>none
 | k + 1,a0,a1,a2=>if a0 = 0 then (zG.j0 k a0 a1 a2 true) else (if a1 = 0 then (zG.j0 k a0 a1 a2 true) else (zG.j0 k a0 a1 a2 (a2 == 0)))
end
theorem zG.zY : ∀ k,(∀ y0 y1 y2,LeO (zG.f k y0 y1 y2) (zG.f (k + 1) y0 y1 y2)) ∧ (∀ y0 y1 y2 y3,LeO (zG.j0 k y0 y1 y2 y3) (zG.j0 (k + 1) y0 y1 y2 y3))
 | 0=>⟨fun _ _ _ r h=>by simp [zG.f] at h,fun _ _ _ _ r h=>by simp [zG.j0] at h⟩
 | k + 1=>by
  obtain ⟨ih0,ih1⟩:=zG.zY k
  refine ⟨?_,?_⟩
  · intro y0 y1 y2
    unfold zG.f
    repeat' first
    | (with_reducible exact ih0 _ _ _)
    | (with_reducible exact ih1 _ _ _ _)
    | (with_reducible exact zO.mono _ _ _)
    | (with_reducible exact LeO.refl _)
    | (with_reducible exact LeO.none _)
    | (with_reducible refine LeO.ite ?_ ?_)
    | (with_reducible refine LeO.bind ?_ (fun _=>?_))
    | exact ih0 _ _ _
    | exact ih1 _ _ _ _
    | exact zO.mono _ _ _
    | exact LeO.none _
    | refine LeO.ite ?_ ?_
    | refine LeO.bind ?_ (fun _=>?_)
  · intro y0 y1 y2 y3
    unfold zG.j0
    repeat' first
    | (with_reducible exact ih0 _ _ _)
    | (with_reducible exact ih1 _ _ _ _)
    | (with_reducible exact zO.mono _ _ _)
    | (with_reducible exact LeO.refl _)
    | (with_reducible exact LeO.none _)
    | (with_reducible refine LeO.ite ?_ ?_)
    | (with_reducible refine LeO.bind ?_ (fun _=>?_))
    | exact ih0 _ _ _
    | exact ih1 _ _ _ _
    | exact zO.mono _ _ _
    | exact LeO.none _
    | refine LeO.ite ?_ ?_
    | refine LeO.bind ?_ (fun _=>?_)
theorem zG.mono : ∀ a0 a1 a2 k,LeO (zG.f k a0 a1 a2) (zG.f (k + 1) a0 a1 a2):=by
 intro a0 a1 a2 k
 obtain ⟨ih0,ih1⟩:=zG.zY k
 exact ih0 a0 a1 a2
set_option maxHeartbeats 8000000 in
set_option maxRecDepth 100000 in
theorem zG.calls (k : Nat) : ∀ (a0 : Int) (a1 : Int) (a2 : Int) (r : Int) (w : World) (h : zG.f k a0 a1 a2 = some r),
 Calls Try.prog 78 #[.int .i64 a0,.int .u64 a1,.int .u64 a2] w fun e w'=>e = .returned (.int .u64 r) ∧ Drawn0 w w':=by
 induction k using Nat.strongRecOn with
 | _ k ih =>
 intro a0 a1 a2 r w h
 cases k with
 | zero=>exact absurd h (by simp [zG.f])
 | succ k =>
 simp only [zG.f] at h
 have H : (if a0 = 0 then (zG.j0 k a0 a1 a2 true) else (if a1 = 0 then (zG.j0 k a0 a1 a2 true) else (zG.j0 k a0 a1 a2 (a2 == 0)))) = some r:=h
 clear h
 have HC4:=z1.mk H
 clear H
 go_enter Try.func78,Try.ntmps78
 go_upto_region 1 with (fail)
 go_cut [23] (fun v23 wc=>∃ (kq : Nat) (x23_3 : Bool),v23 = .bool x23_3 ∧ z1 (zG.j0 kq a0 a1 a2 x23_3 = some r) ∧ z1 (kq ≤ k) ∧ Drawn0 w wc)
 case first =>
  have H:=HC4.out
  clear HC4
  by_cases c5 : a0 = 0
  · rw [if_pos c5] at H
    have c5b0 : (a0 == 0) = true:=beq_iff_eq.mpr c5
    have c5b1 : (a0 != 0) = false:=bne_eq_false_iff_eq.mpr c5
    clear c5
    (first|rw [c5b0]|(simp only [zH,zI];rw [c5b0])|skip)
    have H':=z1.mk H
    clear H
    go_wp2
    go_meet
    case rel=>exact ⟨_,(true),zz82,H',⟨by first|omega|exact Nat.le_refl _⟩,by repeat (first|exact Drawn0.refl _|apply Drawn0.step)⟩
  rw [if_neg c5] at H
  have c5b0 : (a0 == 0) = false:=beq_eq_false_iff_ne.mpr c5
  have c5b1 : (a0 != 0) = true:=bne_iff_ne.mpr c5
  (first|rw [c5b0]|(simp only [zH,zI];rw [c5b0])|skip)
  by_cases c6 : a1 = 0
  rotate_left
  · rw [if_neg c6] at H
    have c6b0 : (a1 == 0) = false:=beq_eq_false_iff_ne.mpr c6
    have c6b1 : (a1 != 0) = true:=bne_iff_ne.mpr c6
    have H':=z1.mk H
    clear H
    go_wp2
    go_meet
    case rel=>exact ⟨_,((a2 == 0)),zz82,H',⟨by first|omega|exact Nat.le_refl _⟩,by repeat (first|exact Drawn0.refl _|apply Drawn0.step)⟩
  rw [if_pos c6] at H
  have c6b0 : (a1 == 0) = true:=beq_iff_eq.mpr c6
  have c6b1 : (a1 != 0) = false:=bne_eq_false_iff_eq.mpr c6
  clear c6
  have H':=z1.mk H
  clear H
  go_wp2
  go_meet
  case rel=>exact ⟨_,(true),zz82,H',⟨by first|omega|exact Nat.le_refl _⟩,by repeat (first|exact Drawn0.refl _|apply Drawn0.step)⟩
 case rest =>
  clear HC4
  (try clear p2);(try clear c5);(try clear c5b0);(try clear c5b1);(try clear c6);(try clear c6b0);(try clear c6b1)
  obtain ⟨kq,x23_3,rfl,HA,HJ3,⟨mc3,rfl⟩⟩:=hcut
  cases kq with
  | zero=>exact absurd HA.out (by simp [zG.j0])
  | succ kj3 =>
   have H:=HA.out
   clear HA
   simp only [zG.j0] at H
   by_cases c7 : x23_3 = true
   · subst c7
     have H1 : (some (Go.bits .and .u64 (Go.bits .and .u64 a1 a2) 1)) = some r:=by rw [if_pos rfl] at H;exact H
     clear H
     have H:=H1
     clear H1
     obtain rfl:=Option.some.inj H
     go_wp2
     go_ret
     exact ⟨by first|rfl|(simp;done)|(simp [*];done),by repeat (first|exact Drawn0.refl _|apply Drawn0.step)⟩
   replace c7:=Bool.eq_false_iff.mpr c7
   subst c7
   have H1 : ((z1w.f a0 a1).bind fun bt101=>((z1w.f a0 a2).bind fun bt103=>((zG.f kj3 (wrap64 (a0 - 1)) bt101.1 bt103.1).bind fun t105=>((zG.f kj3 (wrap64 (a0 - 1)) bt101.2 bt103.2).bind fun t106=>((zG.f kj3 (wrap64 (a0 - 1)) (Go.bits .xor .u64 bt101.1 bt101.2) (Go.bits .xor .u64 bt103.1 bt103.2)).bind fun t107=>((zO.f kj3 (wrap64 (a0 - 1)) t105).bind fun t108=>((z1x.f a0 (Go.bits .xor .u64 (Go.bits .xor .u64 (Go.bits .xor .u64 t107 t105) t106) t108) (Go.bits .xor .u64 t106 t105)).bind fun t109=>(some t109)))))))) = some r:=by rw [if_neg (show ¬ (false = true) by decide)] at H;exact H
   clear H
   have H:=H1
   clear H1
   replace H:=Option.bind_eq_some_iff.mp H
   obtain ⟨⟨t101,t102⟩,A80,H⟩:=H
   replace H : ((z1w.f a0 a2).bind fun bt103=>((zG.f kj3 (wrap64 (a0 - 1)) t101 bt103.1).bind fun t105=>((zG.f kj3 (wrap64 (a0 - 1)) t102 bt103.2).bind fun t106=>((zG.f kj3 (wrap64 (a0 - 1)) (Go.bits .xor .u64 t101 t102) (Go.bits .xor .u64 bt103.1 bt103.2)).bind fun t107=>((zO.f kj3 (wrap64 (a0 - 1)) t105).bind fun t108=>((z1x.f a0 (Go.bits .xor .u64 (Go.bits .xor .u64 (Go.bits .xor .u64 t107 t105) t106) t108) (Go.bits .xor .u64 t106 t105)).bind fun t109=>(some t109))))))) = some r:=H
   have A8:=z1.mk A80
   clear A80
   replace H:=Option.bind_eq_some_iff.mp H
   obtain ⟨⟨t103,t104⟩,A90,H⟩:=H
   replace H : ((zG.f kj3 (wrap64 (a0 - 1)) t101 t103).bind fun t105=>((zG.f kj3 (wrap64 (a0 - 1)) t102 t104).bind fun t106=>((zG.f kj3 (wrap64 (a0 - 1)) (Go.bits .xor .u64 t101 t102) (Go.bits .xor .u64 t103 t104)).bind fun t107=>((zO.f kj3 (wrap64 (a0 - 1)) t105).bind fun t108=>((z1x.f a0 (Go.bits .xor .u64 (Go.bits .xor .u64 (Go.bits .xor .u64 t107 t105) t106) t108) (Go.bits .xor .u64 t106 t105)).bind fun t109=>(some t109)))))) = some r:=H
   have A9:=z1.mk A90
   clear A90
   replace H:=Option.bind_eq_some_iff.mp H
   obtain ⟨t105,A100,H⟩:=H
   replace H : ((zG.f kj3 (wrap64 (a0 - 1)) t102 t104).bind fun t106=>((zG.f kj3 (wrap64 (a0 - 1)) (Go.bits .xor .u64 t101 t102) (Go.bits .xor .u64 t103 t104)).bind fun t107=>((zO.f kj3 (wrap64 (a0 - 1)) t105).bind fun t108=>((z1x.f a0 (Go.bits .xor .u64 (Go.bits .xor .u64 (Go.bits .xor .u64 t107 t105) t106) t108) (Go.bits .xor .u64 t106 t105)).bind fun t109=>(some t109))))) = some r:=H
   have A10:=z1.mk A100
   clear A100
   replace H:=Option.bind_eq_some_iff.mp H
   obtain ⟨t106,A110,H⟩:=H
   replace H : ((zG.f kj3 (wrap64 (a0 - 1)) (Go.bits .xor .u64 t101 t102) (Go.bits .xor .u64 t103 t104)).bind fun t107=>((zO.f kj3 (wrap64 (a0 - 1)) t105).bind fun t108=>((z1x.f a0 (Go.bits .xor .u64 (Go.bits .xor .u64 (Go.bits .xor .u64 t107 t105) t106) t108) (Go.bits .xor .u64 t106 t105)).bind fun t109=>(some t109)))) = some r:=H
   have A11:=z1.mk A110
   clear A110
   replace H:=Option.bind_eq_some_iff.mp H
   obtain ⟨t107,A120,H⟩:=H
   replace H : ((zO.f kj3 (wrap64 (a0 - 1)) t105).bind fun t108=>((z1x.f a0 (Go.bits .xor .u64 (Go.bits .xor .u64 (Go.bits .xor .u64 t107 t105) t106) t108) (Go.bits .xor .u64 t106 t105)).bind fun t109=>(some t109))) = some r:=H
   have A12:=z1.mk A120
   clear A120
   replace H:=Option.bind_eq_some_iff.mp H
   obtain ⟨t108,A130,H⟩:=H
   replace H : ((z1x.f a0 (Go.bits .xor .u64 (Go.bits .xor .u64 (Go.bits .xor .u64 t107 t105) t106) t108) (Go.bits .xor .u64 t106 t105)).bind fun t109=>(some t109)) = some r:=H
   have A13:=z1.mk A130
   clear A130
   replace H:=Option.bind_eq_some_iff.mp H
   obtain ⟨t109,A140,H⟩:=H
   replace H : (some t109) = some r:=H
   have A14:=z1.mk A140
   clear A140
   obtain rfl:=Option.some.inj H
   go_wp2_with (first|((with_reducible refine zo (f:=85) rfl ?_);refine goesL_ (some 31) rfl rfl Try.func85 zz84 rfl #[.int .i64 a0,.int .u64 a1] rfl zz45 ?_;(with_reducible refine (z1w.calls a0 a1 t101 t102 _ A8.out).mono ?_);rintro e w' ⟨rfl,⟨nd,rfl⟩⟩;refine ⟨_,rfl,?_⟩)|((with_reducible refine zo (f:=85) rfl ?_);refine goesL_ (some 37) rfl rfl Try.func85 zz84 rfl #[.int .i64 a0,.int .u64 a2] rfl zz45 ?_;(with_reducible refine (z1w.calls a0 a2 t103 t104 _ A9.out).mono ?_);rintro e w' ⟨rfl,⟨nd,rfl⟩⟩;refine ⟨_,rfl,?_⟩)|((with_reducible refine zo (f:=78) rfl ?_);refine goesL_ (some 44) rfl rfl Try.func78 zz84 rfl #[.int .i64 (wrap64 (a0 - 1)),.int .u64 t101,.int .u64 t103] rfl zz45 ?_;(with_reducible refine (ih kj3 (by have:=HJ3.out;omega) (wrap64 (a0 - 1)) t101 t103 t105 _ A10.out).mono ?_);rintro e w' ⟨rfl,⟨nd,rfl⟩⟩;refine ⟨_,rfl,?_⟩)|((with_reducible refine zo (f:=78) rfl ?_);refine goesL_ (some 49) rfl rfl Try.func78 zz84 rfl #[.int .i64 (wrap64 (a0 - 1)),.int .u64 t102,.int .u64 t104] rfl zz45 ?_;(with_reducible refine (ih kj3 (by have:=HJ3.out;omega) (wrap64 (a0 - 1)) t102 t104 t106 _ A11.out).mono ?_);rintro e w' ⟨rfl,⟨nd,rfl⟩⟩;refine ⟨_,rfl,?_⟩)|((with_reducible refine zo (f:=78) rfl ?_);refine goesL_ (some 58) rfl rfl Try.func78 zz84 rfl #[.int .i64 (wrap64 (a0 - 1)),.int .u64 (Go.bits .xor .u64 t101 t102),.int .u64 (Go.bits .xor .u64 t103 t104)] rfl zz45 ?_;(with_reducible refine (ih kj3 (by have:=HJ3.out;omega) (wrap64 (a0 - 1)) (Go.bits .xor .u64 t101 t102) (Go.bits .xor .u64 t103 t104) t107 _ A12.out).mono ?_);rintro e w' ⟨rfl,⟨nd,rfl⟩⟩;refine ⟨_,rfl,?_⟩)|((with_reducible refine zo (f:=77) rfl ?_);refine goesL_ (some 68) rfl rfl Try.func77 zz84 rfl #[.int .i64 (wrap64 (a0 - 1)),.int .u64 t105] rfl zz45 ?_;(with_reducible refine (zO.calls kj3 (wrap64 (a0 - 1)) t105 t108 _ A13.out).mono ?_);rintro e w' ⟨rfl,⟨nd,rfl⟩⟩;refine ⟨_,rfl,?_⟩)|((with_reducible refine zo (f:=86) rfl ?_);refine goesL_ (some 73) rfl rfl Try.func86 zz84 rfl #[.int .i64 a0,.int .u64 (Go.bits .xor .u64 (Go.bits .xor .u64 (Go.bits .xor .u64 t107 t105) t106) t108),.int .u64 (Go.bits .xor .u64 t106 t105)] rfl zz45 ?_;(with_reducible refine (z1x.calls a0 (Go.bits .xor .u64 (Go.bits .xor .u64 (Go.bits .xor .u64 t107 t105) t106) t108) (Go.bits .xor .u64 t106 t105) t109 _ A14.out).mono ?_);rintro e w' ⟨rfl,⟨nd,rfl⟩⟩;refine ⟨_,rfl,?_⟩))
   go_ret
   exact ⟨by first|rfl|(simp;done)|(simp [*];done),by repeat (first|exact Drawn0.refl _|apply Drawn0.step)⟩
end Go.Proofs.Ytnhbdhgbmjcjdaa.P
namespace Go.Proofs.Ytnhbdhgbmjcjdaa.P
open Go.RowKit Go.Proofs.YtnhbdhgbmjcjdaaW.PrintWords Go.Proofs.YtnhbdhgbmjcjdaaW.PrintLast Go.Proofs.YtnhbdhgbmjcjdaaW.PrintMore
attribute [local go_sem] z10 z12 z1h z1i zQ zR z11 z13   -- for this text's walks alone
set_option linter.unusedVariables false
set_option linter.unusedSimpArgs false
def z1g.j0 : Nat → Int → Bool → Int → Int → Int → Int → Option (Int × Int)
 | 0,_,_,_,_,_,_=>none
 | k + 1,x0,x10,x102000,x102001,x103000,x103001=>if x10 = true then (some (0,0)) else (if x0 ≤ 6 then ((zG.f k x0 x102001 x103001).bind fun t106=>(some (0,t106))) else ((zG.f k 6 x102000 x103000).bind fun t107=>((zG.f k 6 x102001 x103001).bind fun t108=>((zG.f k 6 (Go.bits .xor .u64 x102000 x102001) (Go.bits .xor .u64 x103000 x103001)).bind fun t109=>((zO.f k 6 t107).bind fun t110=>(some (Go.bits .xor .u64 (Go.bits .xor .u64 (Go.bits .xor .u64 t109 t107) t108) t110,Go.bits .xor .u64 t108 t107)))))))
def z1g.f (k : Nat) (a0 : Int) (a1_0 : Int) (a1_1 : Int) (a2_0 : Int) (a2_1 : Int) : Option (Int × Int):=(z1a.f k a0 a1_0 a1_1).bind fun t104=>(if t104 = true then ((z1a.f k a0 a2_0 a2_1).bind fun t105=>(z1g.j0 k a0 (!t105) a1_0 a1_1 a2_0 a2_1)) else (z1g.j0 k a0 true a1_0 a1_1 a2_0 a2_1))
theorem z1g.zY : ∀ k,(∀ y0 y1 y2 y3 y4 y5,LeO (z1g.j0 k y0 y1 y2 y3 y4 y5) (z1g.j0 (k + 1) y0 y1 y2 y3 y4 y5))
 | 0=>fun _ _ _ _ _ _ r h=>by simp [z1g.j0] at h
 | k + 1=>by
  have ih0:=z1g.zY k
  · intro y0 y1 y2 y3 y4 y5
    unfold z1g.j0
    repeat' first
    | (with_reducible exact ih0 _ _ _ _ _ _)
    | (with_reducible exact z1a.mono _ _ _ _)
    | (with_reducible exact zG.mono _ _ _ _)
    | (with_reducible exact zO.mono _ _ _)
    | (with_reducible exact LeO.refl _)
    | (with_reducible exact LeO.none _)
    | (with_reducible refine LeO.ite ?_ ?_)
    | (with_reducible refine LeO.bind ?_ (fun _=>?_))
    | exact ih0 _ _ _ _ _ _
    | exact z1a.mono _ _ _ _
    | exact zG.mono _ _ _ _
    | exact zO.mono _ _ _
    | exact LeO.none _
    | refine LeO.ite ?_ ?_
    | refine LeO.bind ?_ (fun _=>?_)
theorem z1g.mono : ∀ a0 a1 a2 a3 a4 k,LeO (z1g.f k a0 a1 a2 a3 a4) (z1g.f (k + 1) a0 a1 a2 a3 a4):=by
 intro a0 a1 a2 a3 a4 k
 have ih0:=z1g.zY k
 unfold z1g.f
 repeat' first
  | (with_reducible exact ih0 _ _ _ _ _ _)
  | (with_reducible exact z1a.mono _ _ _ _)
  | (with_reducible exact zG.mono _ _ _ _)
  | (with_reducible exact zO.mono _ _ _)
  | (with_reducible exact LeO.refl _)
  | (with_reducible exact LeO.none _)
  | (with_reducible refine LeO.ite ?_ ?_)
  | (with_reducible refine LeO.bind ?_ (fun _=>?_))
  | exact ih0 _ _ _ _ _ _
  | exact z1a.mono _ _ _ _
  | exact zG.mono _ _ _ _
  | exact zO.mono _ _ _
  | exact LeO.none _
  | refine LeO.ite ?_ ?_
  | refine LeO.bind ?_ (fun _=>?_)
set_option maxHeartbeats 8000000 in
set_option maxRecDepth 100000 in
theorem z1g.calls (k : Nat) (a0 : Int) (a1_0 : Int) (a1_1 : Int) (a2_0 : Int) (a2_1 : Int) (r1 : Int) (r2 : Int) (w : World) (h : z1g.f k a0 a1_0 a1_1 a2_0 a2_1 = some (r1,r2)) :
 Calls Try.prog 59 #[.int .i64 a0,.agg #[.int .u64 a1_0,.int .u64 a1_1],.agg #[.int .u64 a2_0,.int .u64 a2_1]] w fun e w'=>e = .returned (.agg #[.int .u64 r1,.int .u64 r2]) ∧ Below w.heap.size w w':=by
 have hu35:=Try.underlying35
 have HB:=z1.mk (Below.refl w.heap.size w)
 have H : ((z1a.f k a0 a1_0 a1_1).bind fun t104=>(if t104 = true then ((z1a.f k a0 a2_0 a2_1).bind fun t105=>(z1g.j0 k a0 (!t105) a1_0 a1_1 a2_0 a2_1)) else (z1g.j0 k a0 true a1_0 a1_1 a2_0 a2_1))) = some (r1,r2):=h
 clear h
 have HC4:=z1.mk H
 clear H
 go_enter Try.func59,Try.ntmps59
 go_upto_region 1 with (first|((with_reducible refine zE (N:=4) rfl ?_);refine zC ?hg (N:=4) ?hd (cs:=#[.int .u64 a1_0,.int .u64 a1_1]) (t:=35) ?hr ?_;(case hd=>rfl);(case hg=>rfl);(case hr=>first|(go_simp;done)|(go_simp;rfl));intro gb101 hg w5 hbox hb;have n0_:=z1.mk (ze zz47 hb);have n1_:=z1.mk (hbox);have n2_:=z1.mk ((by rw [hg];exact (zf zz47) : w.heap.size ≤ gb101));have n3_:=z1.mk ((by rw [hg];exact (zf zz47) : w.heap.size ≤ gb101));clear HB;have HB:=n0_;have BK101:=n1_;have GW101:=n2_;have GE101:=n3_;clear n0_ n1_ n2_ n3_;clear hb hbox hg)|((with_reducible refine zE (N:=5) rfl ?_);refine zC ?hg (N:=5) ?hd (cs:=#[.int .u64 a2_0,.int .u64 a2_1]) (t:=35) ?hr ?_;(case hd=>rfl);(case hg=>rfl);(case hr=>first|(go_simp;done)|(go_simp;rfl));intro gb102 hg w6 hbox hb;have n0_:=z1.mk (z9 (g:=gb101) (o:=.cells #[.int .u64 a1_0,.int .u64 a1_1] 35 (0,0)) zz49 hb);have n1_:=z1.mk (ze zz41 hb);have n2_:=z1.mk (hbox);have n3_:=z1.mk ((by rw [hg];exact (zf zz41) : w.heap.size ≤ gb102));have n4_:=z1.mk ((by rw [hg];exact (zf zz41) : w.heap.size ≤ gb102));have n5_:=z1.mk ((by rw [hg];exact Nat.ne_of_lt (zw (g:=gb101) (o:=.cells #[.int .u64 a1_0,.int .u64 a1_1] 35 (0,0)) zz49) : gb101 ≠ gb102));have n6_:=z1.mk ((by rw [hg];exact Nat.ne_of_gt (zw (g:=gb101) (o:=.cells #[.int .u64 a1_0,.int .u64 a1_1] 35 (0,0)) zz49) : gb102 ≠ gb101));clear BK101;clear HB;have BK101:=n0_;have HB:=n1_;have BK102:=n2_;have GW102:=n3_;have GE102:=n4_;have NB101_102:=n5_;have NB102_101:=n6_;clear n0_ n1_ n2_ n3_ n4_ n5_ n6_;clear hb hbox hg)|((with_reducible refine zE (N:=6) rfl ?_);refine zC ?hg (N:=6) ?hd (cs:=#[.int .u64 0,.int .u64 0]) (t:=35) ?hr ?_;(case hd=>rfl);(case hg=>rfl);(case hr=>first|(go_simp;done)|(go_simp;rfl));intro gb103 hg w7 hbox hb;have n0_:=z1.mk (z9 (g:=gb101) (o:=.cells #[.int .u64 a1_0,.int .u64 a1_1] 35 (0,0)) zz49 hb);have n1_:=z1.mk (z9 (g:=gb102) (o:=.cells #[.int .u64 a2_0,.int .u64 a2_1] 35 (0,0)) zz50 hb);have n2_:=z1.mk (ze zz36 hb);have n3_:=z1.mk (hbox);have n4_:=z1.mk ((by rw [hg];exact (zf zz36) : w.heap.size ≤ gb103));have n5_:=z1.mk ((by rw [hg];exact (zf zz36) : w.heap.size ≤ gb103));have n6_:=z1.mk ((by rw [hg];exact Nat.ne_of_lt (zw (g:=gb101) (o:=.cells #[.int .u64 a1_0,.int .u64 a1_1] 35 (0,0)) zz49) : gb101 ≠ gb103));have n7_:=z1.mk ((by rw [hg];exact Nat.ne_of_gt (zw (g:=gb101) (o:=.cells #[.int .u64 a1_0,.int .u64 a1_1] 35 (0,0)) zz49) : gb103 ≠ gb101));have n8_:=z1.mk ((by rw [hg];exact Nat.ne_of_lt (zw (g:=gb102) (o:=.cells #[.int .u64 a2_0,.int .u64 a2_1] 35 (0,0)) zz50) : gb102 ≠ gb103));have n9_:=z1.mk ((by rw [hg];exact Nat.ne_of_gt (zw (g:=gb102) (o:=.cells #[.int .u64 a2_0,.int .u64 a2_1] 35 (0,0)) zz50) : gb103 ≠ gb102));clear BK101;clear BK102;clear HB;have BK101:=n0_;have BK102:=n1_;have HB:=n2_;have BK103:=n3_;have GW103:=n4_;have GE103:=n5_;have NB101_103:=n6_;have NB103_101:=n7_;have NB102_103:=n8_;have NB103_102:=n9_;clear n0_ n1_ n2_ n3_ n4_ n5_ n6_ n7_ n8_ n9_;clear hb hbox hg))
 repeat (go_quiet (first|((with_reducible refine zE (N:=4) rfl ?_);refine zC ?hg (N:=4) ?hd (cs:=#[.int .u64 a1_0,.int .u64 a1_1]) (t:=35) ?hr ?_;(case hd=>rfl);(case hg=>rfl);(case hr=>first|(go_simp;done)|(go_simp;rfl));intro gb101 hg w5 hbox hb;have n0_:=z1.mk (ze zz47 hb);have n1_:=z1.mk (hbox);have n2_:=z1.mk ((by rw [hg];exact (zf zz47) : w.heap.size ≤ gb101));have n3_:=z1.mk ((by rw [hg];exact (zf zz47) : w.heap.size ≤ gb101));clear HB;have HB:=n0_;have BK101:=n1_;have GW101:=n2_;have GE101:=n3_;clear n0_ n1_ n2_ n3_;clear hb hbox hg)|((with_reducible refine zE (N:=5) rfl ?_);refine zC ?hg (N:=5) ?hd (cs:=#[.int .u64 a2_0,.int .u64 a2_1]) (t:=35) ?hr ?_;(case hd=>rfl);(case hg=>rfl);(case hr=>first|(go_simp;done)|(go_simp;rfl));intro gb102 hg w6 hbox hb;have n0_:=z1.mk (z9 (g:=gb101) (o:=.cells #[.int .u64 a1_0,.int .u64 a1_1] 35 (0,0)) zz49 hb);have n1_:=z1.mk (ze zz41 hb);have n2_:=z1.mk (hbox);have n3_:=z1.mk ((by rw [hg];exact (zf zz41) : w.heap.size ≤ gb102));have n4_:=z1.mk ((by rw [hg];exact (zf zz41) : w.heap.size ≤ gb102));have n5_:=z1.mk ((by rw [hg];exact Nat.ne_of_lt (zw (g:=gb101) (o:=.cells #[.int .u64 a1_0,.int .u64 a1_1] 35 (0,0)) zz49) : gb101 ≠ gb102));have n6_:=z1.mk ((by rw [hg];exact Nat.ne_of_gt (zw (g:=gb101) (o:=.cells #[.int .u64 a1_0,.int .u64 a1_1] 35 (0,0)) zz49) : gb102 ≠ gb101));clear BK101;clear HB;have BK101:=n0_;have HB:=n1_;have BK102:=n2_;have GW102:=n3_;have GE102:=n4_;have NB101_102:=n5_;have NB102_101:=n6_;clear n0_ n1_ n2_ n3_ n4_ n5_ n6_;clear hb hbox hg)|((with_reducible refine zE (N:=6) rfl ?_);refine zC ?hg (N:=6) ?hd (cs:=#[.int .u64 0,.int .u64 0]) (t:=35) ?hr ?_;(case hd=>rfl);(case hg=>rfl);(case hr=>first|(go_simp;done)|(go_simp;rfl));intro gb103 hg w7 hbox hb;have n0_:=z1.mk (z9 (g:=gb101) (o:=.cells #[.int .u64 a1_0,.int .u64 a1_1] 35 (0,0)) zz49 hb);have n1_:=z1.mk (z9 (g:=gb102) (o:=.cells #[.int .u64 a2_0,.int .u64 a2_1] 35 (0,0)) zz50 hb);have n2_:=z1.mk (ze zz36 hb);have n3_:=z1.mk (hbox);have n4_:=z1.mk ((by rw [hg];exact (zf zz36) : w.heap.size ≤ gb103));have n5_:=z1.mk ((by rw [hg];exact (zf zz36) : w.heap.size ≤ gb103));have n6_:=z1.mk ((by rw [hg];exact Nat.ne_of_lt (zw (g:=gb101) (o:=.cells #[.int .u64 a1_0,.int .u64 a1_1] 35 (0,0)) zz49) : gb101 ≠ gb103));have n7_:=z1.mk ((by rw [hg];exact Nat.ne_of_gt (zw (g:=gb101) (o:=.cells #[.int .u64 a1_0,.int .u64 a1_1] 35 (0,0)) zz49) : gb103 ≠ gb101));have n8_:=z1.mk ((by rw [hg];exact Nat.ne_of_lt (zw (g:=gb102) (o:=.cells #[.int .u64 a2_0,.int .u64 a2_1] 35 (0,0)) zz50) : gb102 ≠ gb103));have n9_:=z1.mk ((by rw [hg];exact Nat.ne_of_gt (zw (g:=gb102) (o:=.cells #[.int .u64 a2_0,.int .u64 a2_1] 35 (0,0)) zz50) : gb103 ≠ gb102));clear BK101;clear BK102;clear HB;have BK101:=n0_;have BK102:=n1_;have HB:=n2_;have BK103:=n3_;have GW103:=n4_;have GE103:=n5_;have NB101_103:=n6_;have NB103_101:=n7_;have NB102_103:=n8_;have NB103_102:=n9_;clear n0_ n1_ n2_ n3_ n4_ n5_ n6_ n7_ n8_ n9_;clear hb hbox hg));go_upto_region 1 with (first|((with_reducible refine zE (N:=4) rfl ?_);refine zC ?hg (N:=4) ?hd (cs:=#[.int .u64 a1_0,.int .u64 a1_1]) (t:=35) ?hr ?_;(case hd=>rfl);(case hg=>rfl);(case hr=>first|(go_simp;done)|(go_simp;rfl));intro gb101 hg w5 hbox hb;have n0_:=z1.mk (ze zz47 hb);have n1_:=z1.mk (hbox);have n2_:=z1.mk ((by rw [hg];exact (zf zz47) : w.heap.size ≤ gb101));have n3_:=z1.mk ((by rw [hg];exact (zf zz47) : w.heap.size ≤ gb101));clear HB;have HB:=n0_;have BK101:=n1_;have GW101:=n2_;have GE101:=n3_;clear n0_ n1_ n2_ n3_;clear hb hbox hg)|((with_reducible refine zE (N:=5) rfl ?_);refine zC ?hg (N:=5) ?hd (cs:=#[.int .u64 a2_0,.int .u64 a2_1]) (t:=35) ?hr ?_;(case hd=>rfl);(case hg=>rfl);(case hr=>first|(go_simp;done)|(go_simp;rfl));intro gb102 hg w6 hbox hb;have n0_:=z1.mk (z9 (g:=gb101) (o:=.cells #[.int .u64 a1_0,.int .u64 a1_1] 35 (0,0)) zz49 hb);have n1_:=z1.mk (ze zz41 hb);have n2_:=z1.mk (hbox);have n3_:=z1.mk ((by rw [hg];exact (zf zz41) : w.heap.size ≤ gb102));have n4_:=z1.mk ((by rw [hg];exact (zf zz41) : w.heap.size ≤ gb102));have n5_:=z1.mk ((by rw [hg];exact Nat.ne_of_lt (zw (g:=gb101) (o:=.cells #[.int .u64 a1_0,.int .u64 a1_1] 35 (0,0)) zz49) : gb101 ≠ gb102));have n6_:=z1.mk ((by rw [hg];exact Nat.ne_of_gt (zw (g:=gb101) (o:=.cells #[.int .u64 a1_0,.int .u64 a1_1] 35 (0,0)) zz49) : gb102 ≠ gb101));clear BK101;clear HB;have BK101:=n0_;have HB:=n1_;have BK102:=n2_;have GW102:=n3_;have GE102:=n4_;have NB101_102:=n5_;have NB102_101:=n6_;clear n0_ n1_ n2_ n3_ n4_ n5_ n6_;clear hb hbox hg)|((with_reducible refine zE (N:=6) rfl ?_);refine zC ?hg (N:=6) ?hd (cs:=#[.int .u64 0,.int .u64 0]) (t:=35) ?hr ?_;(case hd=>rfl);(case hg=>rfl);(case hr=>first|(go_simp;done)|(go_simp;rfl));intro gb103 hg w7 hbox hb;have n0_:=z1.mk (z9 (g:=gb101) (o:=.cells #[.int .u64 a1_0,.int .u64 a1_1] 35 (0,0)) zz49 hb);have n1_:=z1.mk (z9 (g:=gb102) (o:=.cells #[.int .u64 a2_0,.int .u64 a2_1] 35 (0,0)) zz50 hb);have n2_:=z1.mk (ze zz36 hb);have n3_:=z1.mk (hbox);have n4_:=z1.mk ((by rw [hg];exact (zf zz36) : w.heap.size ≤ gb103));have n5_:=z1.mk ((by rw [hg];exact (zf zz36) : w.heap.size ≤ gb103));have n6_:=z1.mk ((by rw [hg];exact Nat.ne_of_lt (zw (g:=gb101) (o:=.cells #[.int .u64 a1_0,.int .u64 a1_1] 35 (0,0)) zz49) : gb101 ≠ gb103));have n7_:=z1.mk ((by rw [hg];exact Nat.ne_of_gt (zw (g:=gb101) (o:=.cells #[.int .u64 a1_0,.int .u64 a1_1] 35 (0,0)) zz49) : gb103 ≠ gb101));have n8_:=z1.mk ((by rw [hg];exact Nat.ne_of_lt (zw (g:=gb102) (o:=.cells #[.int .u64 a2_0,.int .u64 a2_1] 35 (0,0)) zz50) : gb102 ≠ gb103));have n9_:=z1.mk ((by rw [hg];exact Nat.ne_of_gt (zw (g:=gb102) (o:=.cells #[.int .u64 a2_0,.int .u64 a2_1] 35 (0,0)) zz50) : gb103 ≠ gb102));clear BK101;clear BK102;clear HB;have BK101:=n0_;have BK102:=n1_;have HB:=n2_;have BK103:=n3_;have GW103:=n4_;have GE103:=n5_;have NB101_103:=n6_;have NB103_101:=n7_;have NB102_103:=n8_;have NB103_102:=n9_;clear n0_ n1_ n2_ n3_ n4_ n5_ n6_ n7_ n8_ n9_;clear hb hbox hg)))
 (try simp only [Act.put,List.setIfInBounds_toArray,List.set_cons_zero,List.set_cons_succ])
 go_cut [10] (fun v10 wc=>∃ (kq : Nat) (x10_3 : Bool),v10 = .bool x10_3 ∧ z1 (z1g.j0 kq a0 x10_3 a1_0 a1_1 a2_0 a2_1 = some (r1,r2)) ∧ z1 (kq ≤ k) ∧ z1 (wc.heap[gb101]? = some (.cells #[.int .u64 a1_0,.int .u64 a1_1] 35 (0,0))) ∧ z1 (wc.heap[gb102]? = some (.cells #[.int .u64 a2_0,.int .u64 a2_1] 35 (0,0))) ∧ z1 (wc.heap[gb103]? = some (.cells #[.int .u64 0,.int .u64 0] 35 (0,0))) ∧ z1 (Below w.heap.size w wc))
 case first =>
  have H:=HC4.out
  clear HC4
  replace H:=Option.bind_eq_some_iff.mp H
  obtain ⟨t104,A80,H⟩:=H
  replace H : (if t104 = true then ((z1a.f k a0 a2_0 a2_1).bind fun t105=>(z1g.j0 k a0 (!t105) a1_0 a1_1 a2_0 a2_1)) else (z1g.j0 k a0 true a1_0 a1_1 a2_0 a2_1)) = some (r1,r2):=H
  have A8:=z1.mk A80
  clear A80
  by_cases c9 : t104 = true
  rotate_left
  · replace c9:=Bool.eq_false_iff.mpr c9
    subst c9
    have H1 : (z1g.j0 k a0 true a1_0 a1_1 a2_0 a2_1) = some (r1,r2):=by rw [if_neg (show ¬ (false = true) by decide)] at H;exact H
    clear H
    have H:=H1
    clear H1
    have H':=z1.mk H
    clear H
    have hnb18:=NB101_102.out
    have hnc18:=NB102_101.out
    have hnb19:=NB101_103.out
    have hnc19:=NB103_101.out
    have hcz20_0 : w7.cell? ⟨gb101,0,none⟩ = some (.int .u64 a1_0):=(z5 BK101.out 0).trans rfl
    have hcz20_1 : w7.cell? ⟨gb101,1,none⟩ = some (.int .u64 a1_1):=(z5 BK101.out 1).trans rfl
    have hfz20_0:=z4 BK101.out 0
    have hfz20_1:=z4 BK101.out 1
    go_wp2_with (first|(go_at_call 57;(with_reducible refine (z1a.calls k a0 a1_0 a1_1 false _ A8.out).mono ?_);rintro e w21 ⟨rfl,hb⟩;have n0_:=z1.mk (z9 (g:=gb101) (o:=.cells #[.int .u64 a1_0,.int .u64 a1_1] 35 (0,0)) zz49 hb);have n1_:=z1.mk (z9 (g:=gb102) (o:=.cells #[.int .u64 a2_0,.int .u64 a2_1] 35 (0,0)) zz50 hb);have n2_:=z1.mk (z9 (g:=gb103) (o:=.cells #[.int .u64 0,.int .u64 0] 35 (0,0)) zz54 hb);have n3_:=z1.mk (ze zz32 hb);clear BK101;clear BK102;clear BK103;clear HB;have BK101:=n0_;have BK102:=n1_;have BK103:=n2_;have HB:=n3_;clear n0_ n1_ n2_ n3_;(try clear hb);(try clear hb2);(try clear hk);(try clear hi)))
    repeat (go_quiet (first|(go_at_call 57;(with_reducible refine (z1a.calls k a0 a1_0 a1_1 false _ A8.out).mono ?_);rintro e w21 ⟨rfl,hb⟩;have n0_:=z1.mk (z9 (g:=gb101) (o:=.cells #[.int .u64 a1_0,.int .u64 a1_1] 35 (0,0)) zz49 hb);have n1_:=z1.mk (z9 (g:=gb102) (o:=.cells #[.int .u64 a2_0,.int .u64 a2_1] 35 (0,0)) zz50 hb);have n2_:=z1.mk (z9 (g:=gb103) (o:=.cells #[.int .u64 0,.int .u64 0] 35 (0,0)) zz54 hb);have n3_:=z1.mk (ze zz32 hb);clear BK101;clear BK102;clear BK103;clear HB;have BK101:=n0_;have BK102:=n1_;have BK103:=n2_;have HB:=n3_;clear n0_ n1_ n2_ n3_;(try clear hb);(try clear hb2);(try clear hk);(try clear hi)));try go_wp2_with (first|(go_at_call 57;(with_reducible refine (z1a.calls k a0 a1_0 a1_1 false _ A8.out).mono ?_);rintro e w21 ⟨rfl,hb⟩;have n0_:=z1.mk (z9 (g:=gb101) (o:=.cells #[.int .u64 a1_0,.int .u64 a1_1] 35 (0,0)) zz49 hb);have n1_:=z1.mk (z9 (g:=gb102) (o:=.cells #[.int .u64 a2_0,.int .u64 a2_1] 35 (0,0)) zz50 hb);have n2_:=z1.mk (z9 (g:=gb103) (o:=.cells #[.int .u64 0,.int .u64 0] 35 (0,0)) zz54 hb);have n3_:=z1.mk (ze zz32 hb);clear BK101;clear BK102;clear BK103;clear HB;have BK101:=n0_;have BK102:=n1_;have BK103:=n2_;have HB:=n3_;clear n0_ n1_ n2_ n3_;(try clear hb);(try clear hb2);(try clear hk);(try clear hi))))
    go_meet
    case rel=>exact ⟨_,(true),zz82,H',⟨by first|omega|exact Nat.le_refl _⟩,⟨by (with_reducible repeat (first|refine z8 ?_ _|refine zb ?_|refine z7 ?_ _));exact BK101.out⟩,⟨by (with_reducible repeat (first|refine z8 ?_ _|refine zb ?_|refine z7 ?_ _));exact BK102.out⟩,⟨by (with_reducible repeat (first|refine z8 ?_ _|refine zb ?_|refine z7 ?_ _));exact BK103.out⟩,⟨by repeat (first|(with_reducible first|exact HB.out|apply zd|apply z3|apply zc|refine za ?_ GE101.out|refine za ?_ GE102.out|refine za ?_ GE103.out)|exact HB.out)⟩⟩
  subst c9
  have H1 : ((z1a.f k a0 a2_0 a2_1).bind fun t105=>(z1g.j0 k a0 (!t105) a1_0 a1_1 a2_0 a2_1)) = some (r1,r2):=by rw [if_pos rfl] at H;exact H
  clear H
  have H:=H1
  clear H1
  replace H:=Option.bind_eq_some_iff.mp H
  obtain ⟨t105,A100,H⟩:=H
  replace H : (z1g.j0 k a0 (!t105) a1_0 a1_1 a2_0 a2_1) = some (r1,r2):=H
  have A10:=z1.mk A100
  clear A100
  have H':=z1.mk H
  clear H
  have hnb11:=NB101_102.out
  have hnc11:=NB102_101.out
  have hnb12:=NB101_103.out
  have hnc12:=NB103_101.out
  have hcz13_0 : w7.cell? ⟨gb101,0,none⟩ = some (.int .u64 a1_0):=(z5 BK101.out 0).trans rfl
  have hcz13_1 : w7.cell? ⟨gb101,1,none⟩ = some (.int .u64 a1_1):=(z5 BK101.out 1).trans rfl
  have hfz13_0:=z4 BK101.out 0
  have hfz13_1:=z4 BK101.out 1
  go_wp2_with (first|(go_at_call 57;(with_reducible refine (z1a.calls k a0 a1_0 a1_1 true _ A8.out).mono ?_);rintro e w14 ⟨rfl,hb⟩;have n0_:=z1.mk (z9 (g:=gb101) (o:=.cells #[.int .u64 a1_0,.int .u64 a1_1] 35 (0,0)) zz49 hb);have n1_:=z1.mk (z9 (g:=gb102) (o:=.cells #[.int .u64 a2_0,.int .u64 a2_1] 35 (0,0)) zz50 hb);have n2_:=z1.mk (z9 (g:=gb103) (o:=.cells #[.int .u64 0,.int .u64 0] 35 (0,0)) zz54 hb);have n3_:=z1.mk (ze zz32 hb);clear BK101;clear BK102;clear BK103;clear HB;have BK101:=n0_;have BK102:=n1_;have BK103:=n2_;have HB:=n3_;clear n0_ n1_ n2_ n3_;(try clear hb);(try clear hb2);(try clear hk);(try clear hi);have hnb15:=NB102_103.out;have hnc15:=NB103_102.out;have hcz16_0 : w14.cell? ⟨gb102,0,none⟩ = some (.int .u64 a2_0):=(z5 BK102.out 0).trans rfl;have hcz16_1 : w14.cell? ⟨gb102,1,none⟩ = some (.int .u64 a2_1):=(z5 BK102.out 1).trans rfl;have hfz16_0:=z4 BK102.out 0;have hfz16_1:=z4 BK102.out 1)|(go_at_call 57;(with_reducible refine (z1a.calls k a0 a2_0 a2_1 t105 _ A10.out).mono ?_);rintro e w17 ⟨rfl,hb⟩;have n0_:=z1.mk (z9 (g:=gb101) (o:=.cells #[.int .u64 a1_0,.int .u64 a1_1] 35 (0,0)) zz49 hb);have n1_:=z1.mk (z9 (g:=gb102) (o:=.cells #[.int .u64 a2_0,.int .u64 a2_1] 35 (0,0)) zz50 hb);have n2_:=z1.mk (z9 (g:=gb103) (o:=.cells #[.int .u64 0,.int .u64 0] 35 (0,0)) zz54 hb);have n3_:=z1.mk (ze zz32 hb);clear BK101;clear BK102;clear BK103;clear HB;have BK101:=n0_;have BK102:=n1_;have BK103:=n2_;have HB:=n3_;clear n0_ n1_ n2_ n3_;(try clear hb);(try clear hb2);(try clear hk);(try clear hi)))
  repeat (go_quiet (first|(go_at_call 57;(with_reducible refine (z1a.calls k a0 a1_0 a1_1 true _ A8.out).mono ?_);rintro e w14 ⟨rfl,hb⟩;have n0_:=z1.mk (z9 (g:=gb101) (o:=.cells #[.int .u64 a1_0,.int .u64 a1_1] 35 (0,0)) zz49 hb);have n1_:=z1.mk (z9 (g:=gb102) (o:=.cells #[.int .u64 a2_0,.int .u64 a2_1] 35 (0,0)) zz50 hb);have n2_:=z1.mk (z9 (g:=gb103) (o:=.cells #[.int .u64 0,.int .u64 0] 35 (0,0)) zz54 hb);have n3_:=z1.mk (ze zz32 hb);clear BK101;clear BK102;clear BK103;clear HB;have BK101:=n0_;have BK102:=n1_;have BK103:=n2_;have HB:=n3_;clear n0_ n1_ n2_ n3_;(try clear hb);(try clear hb2);(try clear hk);(try clear hi);have hnb15:=NB102_103.out;have hnc15:=NB103_102.out;have hcz16_0 : w14.cell? ⟨gb102,0,none⟩ = some (.int .u64 a2_0):=(z5 BK102.out 0).trans rfl;have hcz16_1 : w14.cell? ⟨gb102,1,none⟩ = some (.int .u64 a2_1):=(z5 BK102.out 1).trans rfl;have hfz16_0:=z4 BK102.out 0;have hfz16_1:=z4 BK102.out 1)|(go_at_call 57;(with_reducible refine (z1a.calls k a0 a2_0 a2_1 t105 _ A10.out).mono ?_);rintro e w17 ⟨rfl,hb⟩;have n0_:=z1.mk (z9 (g:=gb101) (o:=.cells #[.int .u64 a1_0,.int .u64 a1_1] 35 (0,0)) zz49 hb);have n1_:=z1.mk (z9 (g:=gb102) (o:=.cells #[.int .u64 a2_0,.int .u64 a2_1] 35 (0,0)) zz50 hb);have n2_:=z1.mk (z9 (g:=gb103) (o:=.cells #[.int .u64 0,.int .u64 0] 35 (0,0)) zz54 hb);have n3_:=z1.mk (ze zz32 hb);clear BK101;clear BK102;clear BK103;clear HB;have BK101:=n0_;have BK102:=n1_;have BK103:=n2_;have HB:=n3_;clear n0_ n1_ n2_ n3_;(try clear hb);(try clear hb2);(try clear hk);(try clear hi)));try go_wp2_with (first|(go_at_call 57;(with_reducible refine (z1a.calls k a0 a1_0 a1_1 true _ A8.out).mono ?_);rintro e w14 ⟨rfl,hb⟩;have n0_:=z1.mk (z9 (g:=gb101) (o:=.cells #[.int .u64 a1_0,.int .u64 a1_1] 35 (0,0)) zz49 hb);have n1_:=z1.mk (z9 (g:=gb102) (o:=.cells #[.int .u64 a2_0,.int .u64 a2_1] 35 (0,0)) zz50 hb);have n2_:=z1.mk (z9 (g:=gb103) (o:=.cells #[.int .u64 0,.int .u64 0] 35 (0,0)) zz54 hb);have n3_:=z1.mk (ze zz32 hb);clear BK101;clear BK102;clear BK103;clear HB;have BK101:=n0_;have BK102:=n1_;have BK103:=n2_;have HB:=n3_;clear n0_ n1_ n2_ n3_;(try clear hb);(try clear hb2);(try clear hk);(try clear hi);have hnb15:=NB102_103.out;have hnc15:=NB103_102.out;have hcz16_0 : w14.cell? ⟨gb102,0,none⟩ = some (.int .u64 a2_0):=(z5 BK102.out 0).trans rfl;have hcz16_1 : w14.cell? ⟨gb102,1,none⟩ = some (.int .u64 a2_1):=(z5 BK102.out 1).trans rfl;have hfz16_0:=z4 BK102.out 0;have hfz16_1:=z4 BK102.out 1)|(go_at_call 57;(with_reducible refine (z1a.calls k a0 a2_0 a2_1 t105 _ A10.out).mono ?_);rintro e w17 ⟨rfl,hb⟩;have n0_:=z1.mk (z9 (g:=gb101) (o:=.cells #[.int .u64 a1_0,.int .u64 a1_1] 35 (0,0)) zz49 hb);have n1_:=z1.mk (z9 (g:=gb102) (o:=.cells #[.int .u64 a2_0,.int .u64 a2_1] 35 (0,0)) zz50 hb);have n2_:=z1.mk (z9 (g:=gb103) (o:=.cells #[.int .u64 0,.int .u64 0] 35 (0,0)) zz54 hb);have n3_:=z1.mk (ze zz32 hb);clear BK101;clear BK102;clear BK103;clear HB;have BK101:=n0_;have BK102:=n1_;have BK103:=n2_;have HB:=n3_;clear n0_ n1_ n2_ n3_;(try clear hb);(try clear hb2);(try clear hk);(try clear hi))))
  go_meet
  case rel=>exact ⟨_,(!t105),zz82,H',⟨by first|omega|exact Nat.le_refl _⟩,⟨by (with_reducible repeat (first|refine z8 ?_ _|refine zb ?_|refine z7 ?_ _));exact BK101.out⟩,⟨by (with_reducible repeat (first|refine z8 ?_ _|refine zb ?_|refine z7 ?_ _));exact BK102.out⟩,⟨by (with_reducible repeat (first|refine z8 ?_ _|refine zb ?_|refine z7 ?_ _));exact BK103.out⟩,⟨by repeat (first|(with_reducible first|exact HB.out|apply zd|apply z3|apply zc|refine za ?_ GE101.out|refine za ?_ GE102.out|refine za ?_ GE103.out)|exact HB.out)⟩⟩
 case rest =>
  clear HC4
  (try clear c1);(try clear p2);(try clear c5);(try clear c9);(try clear c11);(try clear c12);(try clear c15);(try clear c18);(try clear c19);(try clear hcz13_0);(try clear hcz13_1);(try clear hcz16_0);(try clear hcz16_1);(try clear hcz20_0);(try clear hcz20_1);(try clear hfz13_0);(try clear hfz13_1);(try clear hfz16_0);(try clear hfz16_1);(try clear hfz20_0);(try clear hfz20_1)
  obtain ⟨kq,x10_3,rfl,HA,HJ3,BK101,BK102,BK103,HB⟩:=hcut
  cases kq with
  | zero=>exact absurd HA.out (by simp [z1g.j0])
  | succ kj3 =>
   have H:=HA.out
   clear HA
   simp only [z1g.j0] at H
   by_cases c22 : x10_3 = true
   · subst c22
     have H1 : (some (0,0)) = some (r1,r2):=by rw [if_pos rfl] at H;exact H
     clear H
     have H:=H1
     clear H1
     simp only [Option.some.injEq,Prod.mk.injEq] at H
     obtain ⟨rfl,rfl⟩:=H
     have hnb23:=NB103_101.out
     have hnc23:=NB101_103.out
     have hnb24:=NB103_102.out
     have hnc24:=NB102_103.out
     have hcz25_0 : wc.cell? ⟨gb103,0,none⟩ = some (.int .u64 0):=(z5 BK103.out 0).trans rfl
     have hcz25_1 : wc.cell? ⟨gb103,1,none⟩ = some (.int .u64 0):=(z5 BK103.out 1).trans rfl
     have hfz25_0:=z4 BK103.out 0
     have hfz25_1:=z4 BK103.out 1
     go_wp2
     repeat (go_quiet (fail);try go_wp2)
     refine bodyPost_ret (results_cell_row rfl _ _ gb103 35 #[.int .u64 0,.int .u64 0] (0,0) _ rfl zz9 Try.underlying35 rfl zz84) rfl ?_
     exact ⟨by first|rfl|(simp [zi,zj] <;> rfl)|(simp [*,zi,zj] <;> rfl),by repeat (first|(with_reducible first|exact HB.out|apply zd|apply z3|apply zc|refine za ?_ GE101.out|refine za ?_ GE102.out|refine za ?_ GE103.out)|exact HB.out)⟩
   replace c22:=Bool.eq_false_iff.mpr c22
   subst c22
   have H1 : (if a0 ≤ 6 then ((zG.f kj3 a0 a1_1 a2_1).bind fun t106=>(some (0,t106))) else ((zG.f kj3 6 a1_0 a2_0).bind fun t107=>((zG.f kj3 6 a1_1 a2_1).bind fun t108=>((zG.f kj3 6 (Go.bits .xor .u64 a1_0 a1_1) (Go.bits .xor .u64 a2_0 a2_1)).bind fun t109=>((zO.f kj3 6 t107).bind fun t110=>(some (Go.bits .xor .u64 (Go.bits .xor .u64 (Go.bits .xor .u64 t109 t107) t108) t110,Go.bits .xor .u64 t108 t107))))))) = some (r1,r2):=by rw [if_neg (show ¬ (false = true) by decide)] at H;exact H
   clear H
   have H:=H1
   clear H1
   by_cases c26 : a0 ≤ 6
   · rw [if_pos c26] at H
     have c26b0 : decide (a0 ≤ 6) = true:=decide_eq_true c26
     clear c26
     replace H:=Option.bind_eq_some_iff.mp H
     obtain ⟨t106,A270,H⟩:=H
     replace H : (some (0,t106)) = some (r1,r2):=H
     have A27:=z1.mk A270
     clear A270
     simp only [Option.some.injEq,Prod.mk.injEq] at H
     obtain ⟨rfl,rfl⟩:=H
     have hnb28:=NB101_102.out
     have hnc28:=NB102_101.out
     have hnb29:=NB101_103.out
     have hnc29:=NB103_101.out
     have hcz30_0 : wc.cell? ⟨gb101,0,none⟩ = some (.int .u64 a1_0):=(z5 BK101.out 0).trans rfl
     have hcz30_1 : wc.cell? ⟨gb101,1,none⟩ = some (.int .u64 a1_1):=(z5 BK101.out 1).trans rfl
     have hfz30_0:=z4 BK101.out 0
     have hfz30_1:=z4 BK101.out 1
     have hnb31:=NB102_103.out
     have hnc31:=NB103_102.out
     have hcz32_0 : wc.cell? ⟨gb102,0,none⟩ = some (.int .u64 a2_0):=(z5 BK102.out 0).trans rfl
     have hcz32_1 : wc.cell? ⟨gb102,1,none⟩ = some (.int .u64 a2_1):=(z5 BK102.out 1).trans rfl
     have hfz32_0:=z4 BK102.out 0
     have hfz32_1:=z4 BK102.out 1
     go_wp2_with (first|(go_at_call 78;(with_reducible refine (zG.calls kj3 a0 a1_1 a2_1 t106 _ A27.out).mono ?_);rintro e w' ⟨rfl,⟨nd,rfl⟩⟩;(try first|exact ⟨rfl,_,World.drewN_drewN _ _ _⟩|exact ⟨rfl,_,Eq.trans (World.drewN_drewN _ _ _) (congrArg (World.drewN _) (Nat.add_assoc _ _ _))⟩);have hcz33_0 : wc.cell? ⟨gb103,0,none⟩ = some (.int .u64 0):=(z5 BK103.out 0).trans rfl;have hcz33_1 : wc.cell? ⟨gb103,1,none⟩ = some (.int .u64 0):=(z5 BK103.out 1).trans rfl;have hfz33_0:=z4 BK103.out 0;have hfz33_1:=z4 BK103.out 1))
     repeat (go_quiet (first|(go_at_call 78;(with_reducible refine (zG.calls kj3 a0 a1_1 a2_1 t106 _ A27.out).mono ?_);rintro e w' ⟨rfl,⟨nd,rfl⟩⟩;(try first|exact ⟨rfl,_,World.drewN_drewN _ _ _⟩|exact ⟨rfl,_,Eq.trans (World.drewN_drewN _ _ _) (congrArg (World.drewN _) (Nat.add_assoc _ _ _))⟩);have hcz33_0 : wc.cell? ⟨gb103,0,none⟩ = some (.int .u64 0):=(z5 BK103.out 0).trans rfl;have hcz33_1 : wc.cell? ⟨gb103,1,none⟩ = some (.int .u64 0):=(z5 BK103.out 1).trans rfl;have hfz33_0:=z4 BK103.out 0;have hfz33_1:=z4 BK103.out 1));try go_wp2_with (first|(go_at_call 78;(with_reducible refine (zG.calls kj3 a0 a1_1 a2_1 t106 _ A27.out).mono ?_);rintro e w' ⟨rfl,⟨nd,rfl⟩⟩;(try first|exact ⟨rfl,_,World.drewN_drewN _ _ _⟩|exact ⟨rfl,_,Eq.trans (World.drewN_drewN _ _ _) (congrArg (World.drewN _) (Nat.add_assoc _ _ _))⟩);have hcz33_0 : wc.cell? ⟨gb103,0,none⟩ = some (.int .u64 0):=(z5 BK103.out 0).trans rfl;have hcz33_1 : wc.cell? ⟨gb103,1,none⟩ = some (.int .u64 0):=(z5 BK103.out 1).trans rfl;have hfz33_0:=z4 BK103.out 0;have hfz33_1:=z4 BK103.out 1)))
     refine bodyPost_ret (results_cell_row rfl _ _ gb103 35 #[.int .u64 0,.int .u64 t106] (0,0) _ rfl zz9 Try.underlying35 rfl zz84) rfl ?_
     exact ⟨by first|rfl|(simp [zi,zj] <;> rfl)|(simp [*,zi,zj] <;> rfl),by repeat (first|(with_reducible first|exact HB.out|apply zd|apply z3|apply zc|refine za ?_ GE101.out|refine za ?_ GE102.out|refine za ?_ GE103.out)|exact HB.out)⟩
   rw [if_neg c26] at H
   have c26b0 : decide (a0 ≤ 6) = false:=decide_eq_false c26
   clear c26
   replace H:=Option.bind_eq_some_iff.mp H
   obtain ⟨t107,A340,H⟩:=H
   replace H : ((zG.f kj3 6 a1_1 a2_1).bind fun t108=>((zG.f kj3 6 (Go.bits .xor .u64 a1_0 a1_1) (Go.bits .xor .u64 a2_0 a2_1)).bind fun t109=>((zO.f kj3 6 t107).bind fun t110=>(some (Go.bits .xor .u64 (Go.bits .xor .u64 (Go.bits .xor .u64 t109 t107) t108) t110,Go.bits .xor .u64 t108 t107))))) = some (r1,r2):=H
   have A34:=z1.mk A340
   clear A340
   replace H:=Option.bind_eq_some_iff.mp H
   obtain ⟨t108,A350,H⟩:=H
   replace H : ((zG.f kj3 6 (Go.bits .xor .u64 a1_0 a1_1) (Go.bits .xor .u64 a2_0 a2_1)).bind fun t109=>((zO.f kj3 6 t107).bind fun t110=>(some (Go.bits .xor .u64 (Go.bits .xor .u64 (Go.bits .xor .u64 t109 t107) t108) t110,Go.bits .xor .u64 t108 t107)))) = some (r1,r2):=H
   have A35:=z1.mk A350
   clear A350
   replace H:=Option.bind_eq_some_iff.mp H
   obtain ⟨t109,A360,H⟩:=H
   replace H : ((zO.f kj3 6 t107).bind fun t110=>(some (Go.bits .xor .u64 (Go.bits .xor .u64 (Go.bits .xor .u64 t109 t107) t108) t110,Go.bits .xor .u64 t108 t107))) = some (r1,r2):=H
   have A36:=z1.mk A360
   clear A360
   replace H:=Option.bind_eq_some_iff.mp H
   obtain ⟨t110,A370,H⟩:=H
   replace H : (some (Go.bits .xor .u64 (Go.bits .xor .u64 (Go.bits .xor .u64 t109 t107) t108) t110,Go.bits .xor .u64 t108 t107)) = some (r1,r2):=H
   have A37:=z1.mk A370
   clear A370
   simp only [Option.some.injEq,Prod.mk.injEq] at H
   obtain ⟨rfl,rfl⟩:=H
   have hnb38:=NB101_102.out
   have hnc38:=NB102_101.out
   have hnb39:=NB101_103.out
   have hnc39:=NB103_101.out
   have hcz40_0 : wc.cell? ⟨gb101,0,none⟩ = some (.int .u64 a1_0):=(z5 BK101.out 0).trans rfl
   have hcz40_1 : wc.cell? ⟨gb101,1,none⟩ = some (.int .u64 a1_1):=(z5 BK101.out 1).trans rfl
   have hfz40_0:=z4 BK101.out 0
   have hfz40_1:=z4 BK101.out 1
   have hnb41:=NB102_103.out
   have hnc41:=NB103_102.out
   have hcz42_0 : wc.cell? ⟨gb102,0,none⟩ = some (.int .u64 a2_0):=(z5 BK102.out 0).trans rfl
   have hcz42_1 : wc.cell? ⟨gb102,1,none⟩ = some (.int .u64 a2_1):=(z5 BK102.out 1).trans rfl
   have hfz42_0:=z4 BK102.out 0
   have hfz42_1:=z4 BK102.out 1
   go_wp2_with (first|(go_at_call 78;(with_reducible refine (zG.calls kj3 6 a1_0 a2_0 t107 _ A34.out).mono ?_);rintro e w' ⟨rfl,⟨nd,rfl⟩⟩;(try first|exact ⟨rfl,_,World.drewN_drewN _ _ _⟩|exact ⟨rfl,_,Eq.trans (World.drewN_drewN _ _ _) (congrArg (World.drewN _) (Nat.add_assoc _ _ _))⟩))|(go_at_call 78;(with_reducible refine (zG.calls kj3 6 a1_1 a2_1 t108 _ A35.out).mono ?_);rintro e w' ⟨rfl,⟨nd,rfl⟩⟩;(try first|exact ⟨rfl,_,World.drewN_drewN _ _ _⟩|exact ⟨rfl,_,Eq.trans (World.drewN_drewN _ _ _) (congrArg (World.drewN _) (Nat.add_assoc _ _ _))⟩))|(go_at_call 78;(with_reducible refine (zG.calls kj3 6 (Go.bits .xor .u64 a1_0 a1_1) (Go.bits .xor .u64 a2_0 a2_1) t109 _ A36.out).mono ?_);rintro e w' ⟨rfl,⟨nd,rfl⟩⟩;(try first|exact ⟨rfl,_,World.drewN_drewN _ _ _⟩|exact ⟨rfl,_,Eq.trans (World.drewN_drewN _ _ _) (congrArg (World.drewN _) (Nat.add_assoc _ _ _))⟩))|(go_at_call 77;(with_reducible refine (zO.calls kj3 6 t107 t110 _ A37.out).mono ?_);rintro e w' ⟨rfl,⟨nd,rfl⟩⟩;(try first|exact ⟨rfl,_,World.drewN_drewN _ _ _⟩|exact ⟨rfl,_,Eq.trans (World.drewN_drewN _ _ _) (congrArg (World.drewN _) (Nat.add_assoc _ _ _))⟩);have hcz43_0 : wc.cell? ⟨gb103,0,none⟩ = some (.int .u64 0):=(z5 BK103.out 0).trans rfl;have hcz43_1 : wc.cell? ⟨gb103,1,none⟩ = some (.int .u64 0):=(z5 BK103.out 1).trans rfl;have hfz43_0:=z4 BK103.out 0;have hfz43_1:=z4 BK103.out 1))
   repeat (go_quiet (first|(go_at_call 78;(with_reducible refine (zG.calls kj3 6 a1_0 a2_0 t107 _ A34.out).mono ?_);rintro e w' ⟨rfl,⟨nd,rfl⟩⟩;(try first|exact ⟨rfl,_,World.drewN_drewN _ _ _⟩|exact ⟨rfl,_,Eq.trans (World.drewN_drewN _ _ _) (congrArg (World.drewN _) (Nat.add_assoc _ _ _))⟩))|(go_at_call 78;(with_reducible refine (zG.calls kj3 6 a1_1 a2_1 t108 _ A35.out).mono ?_);rintro e w' ⟨rfl,⟨nd,rfl⟩⟩;(try first|exact ⟨rfl,_,World.drewN_drewN _ _ _⟩|exact ⟨rfl,_,Eq.trans (World.drewN_drewN _ _ _) (congrArg (World.drewN _) (Nat.add_assoc _ _ _))⟩))|(go_at_call 78;(with_reducible refine (zG.calls kj3 6 (Go.bits .xor .u64 a1_0 a1_1) (Go.bits .xor .u64 a2_0 a2_1) t109 _ A36.out).mono ?_);rintro e w' ⟨rfl,⟨nd,rfl⟩⟩;(try first|exact ⟨rfl,_,World.drewN_drewN _ _ _⟩|exact ⟨rfl,_,Eq.trans (World.drewN_drewN _ _ _) (congrArg (World.drewN _) (Nat.add_assoc _ _ _))⟩))|(go_at_call 77;(with_reducible refine (zO.calls kj3 6 t107 t110 _ A37.out).mono ?_);rintro e w' ⟨rfl,⟨nd,rfl⟩⟩;(try first|exact ⟨rfl,_,World.drewN_drewN _ _ _⟩|exact ⟨rfl,_,Eq.trans (World.drewN_drewN _ _ _) (congrArg (World.drewN _) (Nat.add_assoc _ _ _))⟩);have hcz43_0 : wc.cell? ⟨gb103,0,none⟩ = some (.int .u64 0):=(z5 BK103.out 0).trans rfl;have hcz43_1 : wc.cell? ⟨gb103,1,none⟩ = some (.int .u64 0):=(z5 BK103.out 1).trans rfl;have hfz43_0:=z4 BK103.out 0;have hfz43_1:=z4 BK103.out 1));try go_wp2_with (first|(go_at_call 78;(with_reducible refine (zG.calls kj3 6 a1_0 a2_0 t107 _ A34.out).mono ?_);rintro e w' ⟨rfl,⟨nd,rfl⟩⟩;(try first|exact ⟨rfl,_,World.drewN_drewN _ _ _⟩|exact ⟨rfl,_,Eq.trans (World.drewN_drewN _ _ _) (congrArg (World.drewN _) (Nat.add_assoc _ _ _))⟩))|(go_at_call 78;(with_reducible refine (zG.calls kj3 6 a1_1 a2_1 t108 _ A35.out).mono ?_);rintro e w' ⟨rfl,⟨nd,rfl⟩⟩;(try first|exact ⟨rfl,_,World.drewN_drewN _ _ _⟩|exact ⟨rfl,_,Eq.trans (World.drewN_drewN _ _ _) (congrArg (World.drewN _) (Nat.add_assoc _ _ _))⟩))|(go_at_call 78;(with_reducible refine (zG.calls kj3 6 (Go.bits .xor .u64 a1_0 a1_1) (Go.bits .xor .u64 a2_0 a2_1) t109 _ A36.out).mono ?_);rintro e w' ⟨rfl,⟨nd,rfl⟩⟩;(try first|exact ⟨rfl,_,World.drewN_drewN _ _ _⟩|exact ⟨rfl,_,Eq.trans (World.drewN_drewN _ _ _) (congrArg (World.drewN _) (Nat.add_assoc _ _ _))⟩))|(go_at_call 77;(with_reducible refine (zO.calls kj3 6 t107 t110 _ A37.out).mono ?_);rintro e w' ⟨rfl,⟨nd,rfl⟩⟩;(try first|exact ⟨rfl,_,World.drewN_drewN _ _ _⟩|exact ⟨rfl,_,Eq.trans (World.drewN_drewN _ _ _) (congrArg (World.drewN _) (Nat.add_assoc _ _ _))⟩);have hcz43_0 : wc.cell? ⟨gb103,0,none⟩ = some (.int .u64 0):=(z5 BK103.out 0).trans rfl;have hcz43_1 : wc.cell? ⟨gb103,1,none⟩ = some (.int .u64 0):=(z5 BK103.out 1).trans rfl;have hfz43_0:=z4 BK103.out 0;have hfz43_1:=z4 BK103.out 1)))
   refine bodyPost_ret (results_cell_row rfl _ _ gb103 35 #[.int .u64 (Go.bits .xor .u64 (Go.bits .xor .u64 (Go.bits .xor .u64 t109 t107) t108) t110),.int .u64 (Go.bits .xor .u64 t108 t107)] (0,0) _ rfl (by (with_reducible repeat (first|refine z8 ?_ _|refine zb ?_|refine z7 ?_ _));refine zT (cs:=#[.int .u64 (Go.bits .xor .u64 (Go.bits .xor .u64 (Go.bits .xor .u64 t109 t107) t108) t110),.int .u64 0]) ?_ 1 _ rfl;(with_reducible repeat (first|refine z8 ?_ _|refine zb ?_|refine z7 ?_ _));refine zT (cs:=#[.int .u64 0,.int .u64 0]) ?_ 0 _ rfl;(with_reducible repeat (first|refine z8 ?_ _|refine zb ?_|refine z7 ?_ _));exact BK103.out) Try.underlying35 rfl zz84) rfl ?_
   exact ⟨by first|rfl|(simp [zi,zj] <;> rfl)|(simp [*,zi,zj] <;> rfl),by repeat (first|(with_reducible first|exact HB.out|apply zd|apply z3|apply zc|refine za ?_ GE101.out|refine za ?_ GE102.out|refine za ?_ GE103.out)|exact HB.out)⟩
end Go.Proofs.Ytnhbdhgbmjcjdaa.P
/- What the functions of layers 1 and 2 on elements tell. Own text. -/
namespace Go.Proofs.Ytnhbdhgbmjcjdaa.Sp
open Go.RowKit Go.Proofs.YtnhbdhgbmjcjdaaW.PrintWords Go.Proofs.YtnhbdhgbmjcjdaaW.PrintMore Go.Proofs.Ytnhbdhgbmjcjdaa.P Go.Proofs.Ytnhbdhgbmjcjdaa.Ar Go.Proofs.Ytnhbdhgbmjcjdaa.Tw
set_option linter.unusedVariables false
set_option linter.unusedSimpArgs false
theorem z3p {n : Nat} (h : n ≤ 6) : Q n ≤ 2 ^ 64 := z2U h
theorem Q_dvd {n : Nat} : Q n = 2 ^ 2 ^ n := rfl
theorem z1T {n : Nat} (h : n ≤ 5) : 2 ^ n ≤ 32 := Nat.pow_le_pow_right (n := 2) (by decide) h
theorem z3m {l : Nat} (h : l + 1 ≤ 1000) : wrap64 (((l + 1 : Nat) : Int) - 1) = (l : Int) := by rw [z22 (by omega) (by omega)]; omega
theorem z4b {n : Nat} (h : n ≤ 5) : Q n < 2 ^ 64 := Nat.pow_lt_pow_right (by decide) (by have := z1T h; omega)
theorem z3w {l : Nat} (hl : l ≤ 5) (x : Nat) (hx : x < 2 ^ 64) : z1w.f ((l + 1 : Nat) : Int) (x : Int) = some (((x / Q l : Nat) : Int), ((x % Q l : Nat) : Int)) := by
  unfold z1w.f
  have h32 := z1T hl
  have hQ := z4b hl
  have hm : IntKind.u64.wrap (((2 ^ 2 ^ l : Nat) : Int) - 1) = ((2 ^ 2 ^ l - 1 : Nat) : Int) := by
    have := Nat.two_pow_pos (2 ^ l)
    unfold Q at hQ
    generalize 2 ^ 2 ^ l = q at *
    rw [z2s (by omega) (by omega)]; omega
  rw [z3m (by omega), if_pos (Int.natCast_nonneg _), z6r l (by omega), if_pos (Int.natCast_nonneg _), z4v x (2 ^ l) (by omega), z2G (2 ^ l) (by omega), hm]
  rw [z2f x _ hx (by have := Nat.two_pow_pos (2 ^ l); unfold Q at hQ; omega), Nat.and_two_pow_sub_one_eq_mod]
  rfl
theorem z68 {l : Nat} (hl : l ≤ 5) (h x : Nat) (hh : h < Q l) (hx : x < Q l) : z1x.f ((l + 1 : Nat) : Int) (h : Int) (x : Int) = some ((h * Q l + x : Nat) : Int) := by
  unfold z1x.f
  have h32 := z1T hl
  have hQ := z4b hl
  have h6 : Q (l + 1) ≤ 2 ^ 64 := z3p (by omega)
  have hhx : h * Q l + Q l ≤ Q (l + 1) := by
    rw [z2x]
    have := Nat.mul_le_mul_right (Q l) hh
    rw [Nat.succ_mul] at this; exact this
  have hs : shl .u64 (h : Int) (((2 ^ l : Nat) : Int)) = ((h * Q l : Nat) : Int) := by
    unfold shl
    have h64 : IntKind.u64.bits = 64 := rfl
    rw [h64, Int.toNat_natCast, Nat.min_eq_left (by omega)]
    have hc : ((h : Int) * 2 ^ 2 ^ l) = ((h * Q l : Nat) : Int) := by unfold Q; simp
    rw [hc]
    have : h * Q l < 2 ^ 64 := by omega
    generalize h * Q l = z at *
    exact z2s (by omega) (by omega)
  rw [z3m (by omega), if_pos (by omega), z2G l (by omega), hs, z5g _ _ (by omega) (by omega)]
  congr 2
  unfold Q at *
  rw [Nat.mul_comm, ← Nat.two_pow_add_eq_or_of_lt hx]
theorem z6f : ∀ (l : Nat), l ≤ 6 → ∀ (x : Nat), x < Q l → Ev (fun k => zO.f k (l : Int) (x : Int)) ((val (gen l * of l x) : Nat) : Int) := by
  intro l
  induction l with
  | zero =>
    intro _ x hx
    refine Ev.step (fun k => by rw [zO.f]) (Ev.pos (by rfl) (Ev.ret' ?_))
    rw [z5b, one_mul, z1U 0 x hx]
  | succ l ih =>
    intro hl x hx
    have hx64 : x < 2 ^ 64 := Nat.lt_of_lt_of_le hx (z3p hl)
    have hd : x / Q l < Q l := Nat.div_lt_of_lt_mul (by rw [← z2x]; exact hx)
    have hm : x % Q l < Q l := Nat.mod_lt _ (z2i l)
    have hQ := z4b (n := l) (by omega)
    refine Ev.step (fun k => by rw [zO.f]) (Ev.neg (by omega) (Ev.bnd0 (z3w (by omega) x hx64) ?_))
    simp only [z3m (show l + 1 ≤ 1000 by omega)]
    refine Ev.bnd (ih (by omega) _ hd) ?_
    have hv := z1s (gen l * of l (x / Q l))
    simp only [z1L _ _ (Nat.lt_trans hm hQ) (Nat.lt_trans hv hQ)]
    refine Ev.bnd0 (z68 (by omega) _ _ (z2a hm hv) hd) (Ev.ret' ?_)
    congr 1
    rw [z1F (gen (l + 1) * of (l + 1) x)]
    congr 1
    · congr 1
      have e : (gen (l + 1) * of (l + 1) x).1 = of l (x % Q l) + gen l * of l (x / Q l) := by
        rw [z1X, z2C, z2D, one_mul, zero_mul, one_mul, add_zero]; rfl
      rw [e, z1E, z1U _ _ hm]
    · have e : (gen (l + 1) * of (l + 1) x).2 = of l (x / Q l) := by
        rw [z1Y, z2C, z2D, one_mul, zero_mul, zero_add]; rfl
      rw [e, z1U _ _ hd]
theorem karatsuba {n : Nat} (a1 a0 b1 b0 z : T n) : (a1 + a0) * (b1 + b0) + a1 * b1 + a0 * b0 + z = (a1 * b0 + a0 * b1) + z := by
  have : (a1 + a0) * (b1 + b0) + a1 * b1 + a0 * b0 = a1 * b0 + a0 * b1 := by
    simp only [mul_add, add_mul]
    have : ∀ p q r s : T n, p + q + (r + s) + p + s = q + r := fun p q r s => by
      rw [add_comm p q, add_assoc, add_assoc, add_assoc]
      rw [show p + (r + s + (p + s)) = (p + p) + (r + (s + s)) by simp only [add_assoc, z1M, add_comm]]
      rw [z20, z20, zero_add, add_zero]
    rw [show a1 * b1 + a0 * b1 + (a1 * b0 + a0 * b0) = a1 * b1 + a0 * b1 + (a1 * b0 + a0 * b0) from rfl, this, add_comm]
  rw [this]
theorem z5e : ∀ (l : Nat), l ≤ 6 → ∀ (x y : Nat), x < Q l → y < Q l → Ev (fun k => zG.f k (l : Int) (x : Int) (y : Int)) ((val (of l x * of l y) : Nat) : Int) := by
  intro l
  have hz : ∀ (l : Nat), l ≤ 6 → ∀ (x y : Nat), x < Q l → y < Q l → (l = 0 ∨ x = 0 ∨ y = 0) → Ev (fun k => zG.j0 k (l : Int) (x : Int) (y : Int) true) ((val (of l x * of l y) : Nat) : Int) := by
    intro l hl x y hx hy h
    have hQ := z3p hl
    refine Ev.step (fun k => by rw [zG.j0]) (Ev.pos rfl (Ev.ret' ?_))
    rw [z2f x y (by omega) (by omega)]
    have hxy : x &&& y < 2 ^ 64 := Nat.and_lt_two_pow _ (by omega)
    rw [show (1 : Int) = ((1 : Nat) : Int) from rfl, z2f _ 1 hxy (by decide)]
    congr 1
    rcases h with rfl | rfl | rfl
    · have h1 : x < 2 := hx
      have h2 : y < 2 := hy
      rcases (by omega : x = 0 ∨ x = 1) with rfl | rfl <;> rcases (by omega : y = 0 ∨ y = 1) with rfl | rfl <;> rfl
    · rw [z2E, zero_mul, z1z]; simp
    · rw [z2E, mul_zero, z1z]; simp
  induction l with
  | zero =>
    intro hl x y hx hy
    exact Ev.step (fun k => by rw [zG.f]) (Ev.pos (by rfl) (hz 0 hl x y hx hy (Or.inl rfl)))
  | succ l ih =>
    intro hl x y hx hy
    refine Ev.step (fun k => by rw [zG.f]) (Ev.neg (by omega) ?_)
    by_cases hx0 : x = 0
    · exact Ev.pos (by omega) (hz (l + 1) hl x y hx hy (Or.inr (Or.inl hx0)))
    refine Ev.neg (by omega) ?_
    by_cases hy0 : y = 0
    · rw [show ((y : Int) == 0) = true by simp [hy0]]
      exact hz (l + 1) hl x y hx hy (Or.inr (Or.inr hy0))
    rw [show ((y : Int) == 0) = false by simp [hy0]]
    have hQ := z4b (n := l) (by omega)
    have hx64 : x < 2 ^ 64 := Nat.lt_of_lt_of_le hx (z3p hl)
    have hy64 : y < 2 ^ 64 := Nat.lt_of_lt_of_le hy (z3p hl)
    have hxd : x / Q l < Q l := Nat.div_lt_of_lt_mul (by rw [← z2x]; exact hx)
    have hxm : x % Q l < Q l := Nat.mod_lt _ (z2i l)
    have hyd : y / Q l < Q l := Nat.div_lt_of_lt_mul (by rw [← z2x]; exact hy)
    have hym : y % Q l < Q l := Nat.mod_lt _ (z2i l)
    have hl5 : l ≤ 5 := by omega
    refine Ev.step (fun k => by rw [zG.j0]) (Ev.neg (by decide) (Ev.bnd0 (z3w hl5 x hx64) (Ev.bnd0 (z3w hl5 y hy64) ?_)))
    simp only [z3m (show l + 1 ≤ 1000 by omega)]
    refine Ev.bnd (ih (by omega) _ _ hxd hyd) (Ev.bnd (ih (by omega) _ _ hxm hym) ?_)
    simp only [z1L _ _ (Nat.lt_trans hxd hQ) (Nat.lt_trans hxm hQ), z1L _ _ (Nat.lt_trans hyd hQ) (Nat.lt_trans hym hQ)]
    refine Ev.bnd (ih (by omega) _ _ (z2a hxd hxm) (z2a hyd hym)) ?_
    have v1 := z1s (of l (x / Q l) * of l (y / Q l))
    have v2 := z1s (of l (x % Q l) * of l (y % Q l))
    have v3 := z1s (of l (x / Q l ^^^ x % Q l) * of l (y / Q l ^^^ y % Q l))
    refine Ev.bnd (z6f l (by omega) _ v1) ?_
    have v4 := z1s (gen l * of l (val (of l (x / Q l) * of l (y / Q l))))
    simp only [z1L _ _ (Nat.lt_trans v3 hQ) (Nat.lt_trans v1 hQ), z1L _ _ (Nat.lt_trans (z2a v3 v1) hQ) (Nat.lt_trans v2 hQ), z1L _ _ (Nat.lt_trans (z2a (z2a v3 v1) v2) hQ) (Nat.lt_trans v4 hQ), z1L _ _ (Nat.lt_trans v2 hQ) (Nat.lt_trans v1 hQ)]
    refine Ev.bnd0 (z68 (by omega) _ _ (z2a (z2a (z2a v3 v1) v2) v4) (z2a v2 v1)) (Ev.ret' ?_)
    congr 1
    rw [z1F (of (l + 1) x * of (l + 1) y)]
    congr 1
    · congr 1
      rw [z1X, z1Z, z1Z, z2c, z2l, z2c, z2l, ← karatsuba, z1E, z1E, z1E, z6h hxd hxm, z6h hyd hym, z1K]
    · rw [z1Y, z1Z, z1Z, z2c, z2l, z2c, z2l, z1E]
end Go.Proofs.Ytnhbdhgbmjcjdaa.Sp
namespace Go.Proofs.Ytnhbdhgbmjcjdaa.P
open Go.RowKit Go.Proofs.YtnhbdhgbmjcjdaaW.PrintWords Go.Proofs.YtnhbdhgbmjcjdaaW.PrintLast Go.Proofs.YtnhbdhgbmjcjdaaW.PrintMore
attribute [local go_sem] z10 z12 z1h z1i zQ zR z11 z13   -- for this text's walks alone
set_option linter.unusedVariables false
set_option linter.unusedSimpArgs false
def z31.f  : Option (Int × Int):=some (0,1)
set_option maxHeartbeats 8000000 in
set_option maxRecDepth 100000 in
theorem z31.calls  (r1 : Int) (r2 : Int) (w : World) (h : z31.f  = some (r1,r2)) :
 Calls Try.prog 40 #[] w fun e w'=>e = .returned (.agg #[.int .u64 r1,.int .u64 r2]) ∧ Below w.heap.size w w':=by
 have hu35:=Try.underlying35
 have HB:=z1.mk (Below.refl w.heap.size w)
 have H : (some (0,1)) = some (r1,r2):=h
 clear h
 simp only [Option.some.injEq,Prod.mk.injEq] at H
 obtain ⟨rfl,rfl⟩:=H
 go_enter Try.func40,Try.ntmps40
 go_wp2_with (first|((with_reducible refine zE (N:=0) rfl ?_);refine zC ?hg (N:=0) ?hd (cs:=#[.int .u64 0,.int .u64 0]) (t:=35) ?hr ?_;(case hd=>rfl);(case hg=>rfl);(case hr=>first|(go_simp;done)|(go_simp;rfl));intro gb101 hg w1 hbox hb;have n0_:=z1.mk (ze zz47 hb);have n1_:=z1.mk (hbox);have n2_:=z1.mk ((by rw [hg];exact (zf zz47) : w.heap.size ≤ gb101));have n3_:=z1.mk ((by rw [hg];exact (zf zz47) : w.heap.size ≤ gb101));clear HB;have HB:=n0_;have BK101:=n1_;have GW101:=n2_;have GE101:=n3_;clear n0_ n1_ n2_ n3_;clear hb hbox hg;have hcz2_0 : w1.cell? ⟨gb101,0,none⟩ = some (.int .u64 0):=(z5 BK101.out 0).trans rfl;have hcz2_1 : w1.cell? ⟨gb101,1,none⟩ = some (.int .u64 0):=(z5 BK101.out 1).trans rfl;have hfz2_0:=z4 BK101.out 0;have hfz2_1:=z4 BK101.out 1))
 refine bodyPost_ret (results_cell_row rfl _ _ gb101 35 #[.int .u64 0,.int .u64 1] (0,0) _ rfl zz7 Try.underlying35 rfl zz84) rfl ?_
 exact ⟨by first|rfl|(simp [zi,zj] <;> rfl)|(simp [*,zi,zj] <;> rfl),by repeat (first|(with_reducible first|exact HB.out|apply zd|apply z3|apply zc|refine za ?_ GE101.out)|exact HB.out)⟩
end Go.Proofs.Ytnhbdhgbmjcjdaa.P
/- Elements of the greatest level, as the program and the document hold them: two words. Own text. -/
namespace Go.Proofs.Ytnhbdhgbmjcjdaa.Sp
open Go.RowKit Go.Proofs.YtnhbdhgbmjcjdaaW.PrintWords Go.Proofs.YtnhbdhgbmjcjdaaW.PrintMore Go.Proofs.Ytnhbdhgbmjcjdaa.P Go.Proofs.Ytnhbdhgbmjcjdaa.Ar Go.Proofs.Ytnhbdhgbmjcjdaa.Tw
set_option linter.unusedVariables false
set_option linter.unusedSimpArgs false
abbrev E := T 7
/-- The higher and the lower word. -/
def hi (x : E) : Int := ((val x.1 : Nat) : Int)
def lo (x : E) : Int := ((val x.2 : Nat) : Int)
def el (h l : Int) : E := mk (of 6 h.toNat) (of 6 l.toNat)
theorem hi_el {h l : Int} (h0 : 0 ≤ h) (h1 : h < 18446744073709551616) : hi (el h l) = h := by
  unfold hi el; rw [z2c, z1U 6 _ (by rw [z5o]; omega)]; omega
theorem lo_el {h l : Int} (h0 : 0 ≤ l) (h1 : l < 18446744073709551616) : lo (el h l) = l := by
  unfold lo el; rw [z2l, z1U 6 _ (by rw [z5o]; omega)]; omega
theorem z5c {x y : E} (h : hi x = hi y) (l : lo x = lo y) : x = y := by
  unfold hi lo at *; exact ext (z2h (by omega)) (z2h (by omega))
theorem z1V : hi 0 = 0 := by unfold hi; rw [z3n, z1z]; rfl
theorem z1W : lo 0 = 0 := by unfold lo; rw [z3o, z1z]; rfl
theorem hi_one : hi 1 = 0 := by unfold hi; rw [z4p, z1z]; rfl
theorem lo_one : lo 1 = 1 := by unfold lo; rw [z4q, z2r]; rfl
theorem hi_bd (x : E) : 0 ≤ hi x ∧ hi x < 18446744073709551616 := by
  unfold hi; have := z1s x.1; rw [z5o] at this; omega
theorem z5A (x : E) : 0 ≤ lo x ∧ lo x < 18446744073709551616 := by
  unfold lo; have := z1s x.2; rw [z5o] at this; omega
theorem z3K (x : E) : val x = (hi x).toNat * 18446744073709551616 + (lo x).toNat := by
  unfold hi lo; rw [z1F, z5o]; simp
theorem eq_zero_iff (x : E) : x = 0 ↔ hi x = 0 ∧ lo x = 0 := ⟨fun h => by rw [h]; exact ⟨z1V, z1W⟩, fun h => z5c (h.1.trans z1V.symm) (h.2.trans z1W.symm)⟩
theorem xor_hi (x y : E) : Go.bits .xor .u64 (hi x) (hi y) = hi (x + y) := by
  unfold hi; rw [z1L _ _ (z1s x.1) (z1s y.1), z3r, z1E]
theorem xor_lo (x y : E) : Go.bits .xor .u64 (lo x) (lo y) = lo (x + y) := by
  unfold lo; rw [z1L _ _ (z1s x.2) (z1s y.2), z4d, z1E]
/-- Of a level. -/
def InL (l : Nat) (x : E) : Prop := val x < Q l
instance (l : Nat) (x : E) : Decidable (InL l x) := by unfold InL; infer_instance
def OfS (L : Int) (x : E) : Prop := 0 ≤ L ∧ L ≤ 7 ∧ InL L.toNat x
instance (L : Int) (x : E) : Decidable (OfS L x) := by unfold OfS; infer_instance
theorem z66 (x : E) : InL 7 x := z1s x
theorem z4l (l : Nat) : InL l 0 := by unfold InL; rw [z1z]; exact z2i l
theorem z65 (l : Nat) : InL l 1 := by unfold InL; rw [z2r]; exact Nat.lt_of_lt_of_le (by decide : 1 < Q 0) (z2U (Nat.zero_le _))
theorem inL_mono {l m : Nat} (h : l ≤ m) {x : E} (hx : InL l x) : InL m x := Nat.lt_of_lt_of_le hx (z2U h)
theorem z4i {l : Nat} {x y : E} (hx : InL l x) (hy : InL l y) : InL l (x + y) := by
  unfold InL at *; rw [z1E]; exact z2a hx hy
theorem z4k {l : Nat} (hl : l ≤ 7) {x y : E} (hx : InL l x) (hy : InL l y) : InL l (x * y) := by
  unfold InL at *; have := z5K hl hx hy; rwa [z1K, z1K] at this
theorem z67 {x : E} : InL 6 x ↔ hi x = 0 := by
  unfold InL; have h := z3K x; have h1 := hi_bd x; have h2 := z5A x
  rw [z5o, h]; constructor <;> intro g <;> omega
theorem z4j {l : Nat} (hl : l ≤ 6) {x : E} : InL l x ↔ hi x = 0 ∧ (lo x).toNat < Q l := by
  constructor
  · intro h
    have h6 := z67.1 (inL_mono hl h)
    refine ⟨h6, ?_⟩
    unfold InL at h; rw [z3K, h6] at h; simpa using h
  · rintro ⟨h1, h2⟩
    unfold InL; rw [z3K, h1]; simpa using h2
theorem of_ev (L : Int) (x : E) : Ev (fun k => z1a.f k L (hi x) (lo x)) (decide (OfS L x)) := by
  unfold z1a.f
  by_cases h0 : L < 0
  · refine Ev.pos h0 (Ev.step (fun k => by rw [z1a.j0]) (Ev.pos rfl (Ev.ret' ?_)))
    symm; rw [decide_eq_false_iff_not]; rintro ⟨h, _⟩; omega
  refine Ev.neg h0 ?_
  by_cases h7 : L > 7
  · rw [decide_eq_true h7]
    refine Ev.step (fun k => by rw [z1a.j0]) (Ev.pos rfl (Ev.ret' ?_))
    symm; rw [decide_eq_false_iff_not]; rintro ⟨_, h, _⟩; omega
  rw [decide_eq_false h7]
  refine Ev.step (fun k => by rw [z1a.j0]) (Ev.neg (by decide) ?_)
  obtain ⟨l, rfl⟩ := Int.eq_ofNat_of_zero_le (show 0 ≤ L by omega)
  have hS : OfS (l : Int) x ↔ InL l x := by
    unfold OfS; rw [Int.toNat_natCast]; exact ⟨fun h => h.2.2, fun h => ⟨by omega, by omega, h⟩⟩
  by_cases c7 : (l : Int) = 7
  · refine Ev.pos c7 (Ev.ret' ?_)
    have : l = 7 := by omega
    subst this
    symm; rw [decide_eq_true_eq, hS]; exact z66 x
  refine Ev.neg c7 ?_
  by_cases c6 : (l : Int) = 6
  · refine Ev.pos c6 (Ev.ret' ?_)
    have : l = 6 := by omega
    subst this
    rw [Bool.eq_iff_iff, beq_iff_eq, decide_eq_true_eq, hS]; exact z67.symm
  refine Ev.neg c6 ?_
  have hl5 : l ≤ 5 := by omega
  have hl := z4j (l := l) (by omega) (x := x)
  by_cases c0 : hi x = 0
  · refine Ev.pos c0 (Ev.pos (Int.natCast_nonneg _) (Ev.ret' ?_))
    have h32 := z1T hl5
    have hlo : lo x = (((lo x).toNat : Nat) : Int) := by have := z5A x; omega
    rw [z2G l (by omega), hlo, z4v _ (2 ^ l) (by omega)]
    rw [Bool.eq_iff_iff, beq_iff_eq, decide_eq_true_eq, hS, hl]
    have hq : (lo x).toNat / 2 ^ 2 ^ l = 0 ↔ (lo x).toNat < Q l := by
      rw [Nat.div_eq_zero_iff]; unfold Q
      have := Nat.two_pow_pos (2 ^ l)
      omega
    constructor
    · intro h; exact ⟨c0, hq.1 (by exact_mod_cast h)⟩
    · rintro ⟨_, h⟩; exact_mod_cast hq.2 h
  · refine Ev.neg c0 (Ev.ret' ?_)
    symm; rw [decide_eq_false_iff_not, hS, hl]; exact fun h => c0 h.1
theorem Add_eq (x y : E) : z1t.f (hi x) (lo x) (hi y) (lo y) = some (hi (x + y), lo (x + y)) := by
  unfold z1t.f; rw [xor_hi, xor_lo]
theorem z3D (x y : E) : z1f.f (hi x) (lo x) (hi y) (lo y) = some (hi (x + y), lo (x + y)) := by
  unfold z1f.f; rw [xor_hi, xor_lo]
theorem One_eq : z31.f = some (hi 1, lo 1) := by unfold z31.f; rw [hi_one, lo_one]
theorem Mul_out {L : Int} {x y : E} (h : ¬ (OfS L x ∧ OfS L y)) : Ev (fun k => z1g.f k L (hi x) (lo x) (hi y) (lo y)) (0, 0) := by
  unfold z1g.f
  refine Ev.bnd (of_ev L x) ?_
  by_cases c : OfS L x
  · refine Ev.pos (decide_eq_true c) (Ev.bnd (of_ev L y) ?_)
    rw [decide_eq_false (fun g => h ⟨c, g⟩)]
    exact Ev.step (fun k => by rw [z1g.j0]) (Ev.pos (by rfl) (Ev.ret _))
  · exact Ev.neg (by simpa using c) (Ev.step (fun k => by rw [z1g.j0]) (Ev.pos rfl (Ev.ret _)))
theorem Mul_ev {l : Nat} (hl : l ≤ 7) {x y : E} (hx : InL l x) (hy : InL l y) : Ev (fun k => z1g.f k (l : Int) (hi x) (lo x) (hi y) (lo y)) (hi (x * y), lo (x * y)) := by
  unfold z1g.f
  have hS : ∀ z, InL l z → OfS (l : Int) z := fun z hz => ⟨by omega, by omega, by rw [Int.toNat_natCast]; exact hz⟩
  refine Ev.bnd (of_ev (l : Int) x) (Ev.pos (decide_eq_true (hS x hx)) (Ev.bnd (of_ev (l : Int) y) ?_))
  rw [decide_eq_true (hS y hy)]
  refine Ev.step (fun k => by rw [z1g.j0]) (Ev.neg (by decide) ?_)
  by_cases c : l ≤ 6
  · refine Ev.pos (by omega) ?_
    have ex := (z4j c).1 hx
    have ey := (z4j c).1 hy
    have e1 : lo x = (((lo x).toNat : Nat) : Int) := by have := z5A x; omega
    have e2 : lo y = (((lo y).toNat : Nat) : Int) := by have := z5A y; omega
    have ev := z5e l c (lo x).toNat (lo y).toNat ex.2 ey.2
    rw [← e1, ← e2] at ev
    refine Ev.bnd ev (Ev.ret' ?_)
    have hz := (z4j c).1 (z4k hl hx hy)
    have e3 : lo (x * y) = (((lo (x * y)).toNat : Nat) : Int) := by have := z5A (x * y); omega
    rw [hz.1, e3]
    congr 2
    have vx : val x = (lo x).toNat := by rw [z3K, ex.1]; simp
    have vy : val y = (lo y).toNat := by rw [z3K, ey.1]; simp
    have vz : val (x * y) = (lo (x * y)).toNat := by rw [z3K, hz.1]; simp
    rw [← vz, ← vx, ← vy, ← z32 hl hx hy, z1K, z1K]
  · have : l = 7 := by omega
    subst this
    refine Ev.neg (by decide) ?_
    have v1 := z1s x.1
    have v2 := z1s x.2
    have v3 := z1s y.1
    have v4 := z1s y.2
    have m1 := z5e 6 (by decide) _ _ v1 v3
    have m2 := z5e 6 (by decide) _ _ v2 v4
    have m3 := z5e 6 (by decide) _ _ (z2a v1 v2) (z2a v3 v4)
    rw [z1K, z1K] at m1 m2
    rw [← z1E, ← z1E, z1K, z1K] at m3
    have m4 := z6f 6 (by decide) _ (z1s (x.1 * y.1))
    rw [z1K] at m4
    refine Ev.bnd m1 (Ev.bnd m2 ?_)
    have e1 : Go.bits .xor .u64 (hi x) (lo x) = ((val (x.1 + x.2) : Nat) : Int) := by unfold hi lo; rw [z1L _ _ v1 v2, z1E]
    have e2 : Go.bits .xor .u64 (hi y) (lo y) = ((val (y.1 + y.2) : Nat) : Int) := by unfold hi lo; rw [z1L _ _ v3 v4, z1E]
    simp only [e1, e2]
    refine Ev.bnd m3 (Ev.bnd m4 (Ev.ret' ?_))
    rw [z1L _ _ (z1s _) (z1s _), ← z1E, z1L _ _ (z1s _) (z1s _), ← z1E, z1L _ _ (z1s _) (z1s _), ← z1E, z1L _ _ (z1s _) (z1s _), ← z1E, karatsuba]
    rfl
/-- The program's element, the document's. -/
def toS (x : E) : S35 := ⟨hi x, lo x⟩
def toR (x : E) : S38 := ⟨hi x, lo x⟩
def WfS (e : S35) : Prop := (0 ≤ e.f0 ∧ e.f0 < 18446744073709551616) ∧ (0 ≤ e.f1 ∧ e.f1 < 18446744073709551616)
theorem z45 (x : E) : (toS x).f0 = hi x := rfl
theorem z46 (x : E) : (toS x).f1 = lo x := rfl
theorem z4P (x : E) : (toR x).f0 = hi x := rfl
theorem z4Q (x : E) : (toR x).f1 = lo x := rfl
theorem z5k : toS 0 = z35 := by unfold toS; rw [z1V, z1W]; rfl
theorem toR_zero : toR 0 = z38 := by unfold toR; rw [z1V, z1W]; rfl
theorem toS_el (e : S35) (h : WfS e) : toS (el e.f0 e.f1) = e := by unfold toS; rw [hi_el h.1.1 h.1.2, lo_el h.2.1 h.2.2]
theorem toS_inj {x y : E} (h : toS x = toS y) : x = y := by
  unfold toS at h; injection h with h1 h2; exact z5c h1 h2
theorem wf_of {e : S35} (h : (Lit.int .u64 e.f0).wf = true ∧ (Lit.int .u64 e.f1).wf = true) : WfS e := ⟨wf_u64 h.1, wf_u64 h.2⟩
/-- A list that came in is a list of elements. -/
theorem z6b (l : List S35) (h : ∀ e ∈ l, ((Lit.int .u64 e.f0).wf = true) ∧ ((Lit.int .u64 e.f1).wf = true)) : ∃ X : List E, l = X.map toS := by
  refine ⟨l.map fun e => el e.f0 e.f1, ?_⟩
  rw [List.map_map]
  conv => lhs; rw [← List.map_id l]
  apply List.map_congr_left
  intro e he
  exact (toS_el e (wf_of (h e he))).symm
theorem elem_of (e : S35) (h : ((Lit.int .u64 e.f0).wf = true) ∧ ((Lit.int .u64 e.f1).wf = true)) : ∃ x : E, e = toS x := ⟨_, (toS_el e (wf_of h)).symm⟩
theorem rdS (X : List E) (i : Nat) : rd_T35 (X.map toS) (i : Int) = toS (X.getD i 0) := by
  unfold rd_T35; rw [Int.toNat_natCast, ← z5k, List.getD_eq_getElem?_getD, List.getD_eq_getElem?_getD, List.getElem?_map]
  cases X[i]? <;> rfl
theorem rdR (X : List E) (i : Nat) : z1r (X.map toR) (i : Int) = toR (X.getD i 0) := by
  unfold z1r; rw [Int.toNat_natCast, ← toR_zero, List.getD_eq_getElem?_getD, List.getD_eq_getElem?_getD, List.getElem?_map]
  cases X[i]? <;> rfl
end Go.Proofs.Ytnhbdhgbmjcjdaa.Sp
/- The document's product by shifts and masks is the tower's. Own text; nothing of the program in it. -/
namespace Go.Proofs.Ytnhbdhgbmjcjdaa.Tw
set_option linter.unusedVariables false
set_option linter.unusedSimpArgs false
theorem z2J {n a b : Nat} (hb : b < Q n) : (a * Q n + b) / Q n = a := by rw [Nat.mul_comm, Nat.mul_add_div (z2i n), Nat.div_eq_of_lt hb, Nat.add_zero]
theorem z2K {n a b : Nat} (hb : b < Q n) : (a * Q n + b) % Q n = b := by rw [Nat.mul_comm, Nat.mul_add_mod, Nat.mod_eq_of_lt hb]
theorem z57 {n a b c d : Nat} (hb : b < Q n) (hd : d < Q n) : (a * Q n + b) &&& (c * Q n + d) = (a &&& c) * Q n + (b &&& d) := by
  have h1 : ((a * Q n + b) &&& (c * Q n + d)) / Q n = a &&& c := by
    have e1 := z2J (n := n) (a := a) hb
    have e2 := z2J (n := n) (a := c) hd
    unfold Q at *
    rw [Nat.and_div_two_pow, e1, e2]
  have h2 : ((a * Q n + b) &&& (c * Q n + d)) % Q n = b &&& d := by
    have e1 := z2K (n := n) (a := a) hb
    have e2 := z2K (n := n) (a := c) hd
    unfold Q at *
    rw [Nat.and_mod_two_pow, e1, e2]
  have := Nat.div_add_mod ((a * Q n + b) &&& (c * Q n + d)) (Q n)
  rw [h1, h2, Nat.mul_comm] at this
  exact this.symm
theorem z6m {n a b c d : Nat} (hb : b < Q n) (hd : d < Q n) : (a * Q n + b) ||| (c * Q n + d) = (a ||| c) * Q n + (b ||| d) := by
  have h1 : ((a * Q n + b) ||| (c * Q n + d)) / Q n = a ||| c := by
    have e1 := z2J (n := n) (a := a) hb
    have e2 := z2J (n := n) (a := c) hd
    unfold Q at *
    rw [Nat.or_div_two_pow, e1, e2]
  have h2 : ((a * Q n + b) ||| (c * Q n + d)) % Q n = b ||| d := by
    have e1 := z2K (n := n) (a := a) hb
    have e2 := z2K (n := n) (a := c) hd
    unfold Q at *
    rw [Nat.or_mod_two_pow, e1, e2]
  have := Nat.div_add_mod ((a * Q n + b) ||| (c * Q n + d)) (Q n)
  rw [h1, h2, Nat.mul_comm] at this
  exact this.symm
theorem or_lt {n x y : Nat} (hx : x < Q n) (hy : y < Q n) : x ||| y < Q n := Nat.or_lt_two_pow hx hy
/-- The lower halves of all blocks of 2^(j+1) bits in a word of 2^n. -/
def M (j : Nat) : Nat → Nat
  | 0 => 0
  | n + 1 => if n = j then Q j - 1 else if n < j then 0 else M j n * Q n + M j n
theorem M_base (j : Nat) : M j (j + 1) = Q j - 1 := by simp [M]
theorem z5N {j n : Nat} (h : j + 1 ≤ n) : M j (n + 1) = M j n * Q n + M j n := by
  rw [M, if_neg (by omega), if_neg (by omega)]
/-- What is left of a word without its highest block of 2^j bits. -/
def H (j n : Nat) : Nat := 2 ^ (2 ^ n - 2 ^ j)
theorem z5n {j n : Nat} (h : j ≤ n) : H j n * Q j = Q n := by
  have := Nat.pow_le_pow_right (show 2 > 0 by decide) h
  unfold H Q; rw [← Nat.pow_add, Nat.sub_add_cancel this]
theorem H_pos (j n : Nat) : 0 < H j n := Nat.two_pow_pos _
theorem z5M {j n : Nat} (h : j ≤ n) : H j (n + 1) = H j n * Q n := by
  have := Nat.pow_le_pow_right (show 2 > 0 by decide) h
  unfold H Q; rw [← Nat.pow_add]; congr 1; rw [Nat.pow_succ]; omega
theorem H_self (j : Nat) : H j j = 1 := by unfold H; rw [Nat.sub_self, Nat.pow_zero]
theorem H_base (j : Nat) : H j (j + 1) = Q j := by rw [z5M (Nat.le_refl _), H_self, Nat.one_mul]
theorem H_le {j n : Nat} (h : j ≤ n) : H j n ≤ Q n := by rw [← z5n h]; exact Nat.le_mul_of_pos_right _ (z2i j)
theorem lt_H_mul {j n x : Nat} (h : j ≤ n) (hx : x < H j n) : x * Q j < Q n := by
  rw [← z5n h]; exact Nat.mul_lt_mul_of_pos_right hx (z2i j)
theorem M_lt {j : Nat} : ∀ d, M j (j + 1 + d) < H j (j + 1 + d)
  | 0 => by rw [Nat.add_zero, M_base, H_base]; have := z2i j; omega
  | d + 1 => by
    have ih := M_lt (j := j) d
    rw [← Nat.add_assoc, z5N (by omega), z5M (by omega)]
    have h2 : M j (j + 1 + d) < Q (j + 1 + d) := Nat.lt_of_lt_of_le ih (H_le (by omega))
    have h3 : M j (j + 1 + d) * Q (j + 1 + d) + Q (j + 1 + d) ≤ H j (j + 1 + d) * Q (j + 1 + d) := by
      have := Nat.mul_le_mul_right (Q (j + 1 + d)) ih
      rw [Nat.succ_mul] at this; exact this
    omega
theorem M_lt' {j n : Nat} (h : j + 1 ≤ n) : M j n < H j n := by
  obtain ⟨d, rfl⟩ := Nat.le.dest h; exact M_lt d
theorem M_lt_Q {j n : Nat} (h : j + 1 ≤ n) : M j n < Q n := Nat.lt_of_lt_of_le (M_lt' h) (H_le (by omega))
theorem z2j {x m b : Nat} (h : m < b) : x &&& m < b := Nat.lt_of_le_of_lt Nat.and_le_right h
/-- A word times the generator of the level j, block by block. -/
def tw (n : Nat) : Nat → Nat → Nat
  | 0, v => v
  | j + 1, v => (((v &&& M j n) ^^^ tw n j ((v / Q j) &&& M j n)) * Q j) % Q n ||| ((v / Q j) &&& M j n)
theorem z4E (j : Nat) : val (gen j) < Q j := z1s _
theorem z5i {j g : Nat} (hg : g < Q j) : ∀ d u, u < H j (j + d) → val (of (j + d) g * of (j + d) u) < H j (j + d)
  | 0, u, hu => by
    rw [Nat.add_zero, H_self] at hu ⊢
    have : u = 0 := by omega
    rw [this, z2E, mul_zero, z1z]; decide
  | d + 1, u, hu => by
    rw [← Nat.add_assoc] at hu ⊢
    rw [z5M (Nat.le_add_right _ _)] at hu ⊢
    have hg' : g < Q (j + d) := Nat.lt_of_lt_of_le hg (z2U (Nat.le_add_right _ _))
    have e1 : of (j + d + 1) g = up (of (j + d) g) := z4H hg'
    rw [e1, z39, z1F, z2c, z2l, z1Z, z2c, z2l]
    have h1 := z5i hg d (u / Q (j + d)) (Nat.div_lt_of_lt_mul (by rw [Nat.mul_comm]; exact hu))
    have h2 := z1s (of (j + d) g * of (j + d) (u % Q (j + d)))
    have h3 : val (of (j + d) g * of (j + d) (u / Q (j + d))) * Q (j + d) + Q (j + d) ≤ H j (j + d) * Q (j + d) := by
      have := Nat.mul_le_mul_right (Q (j + d)) h1
      rw [Nat.succ_mul] at this; exact this
    omega
theorem tw_split {j : Nat} (C : ∀ n, j ≤ n → ∀ v, v < Q n → tw n j v = val (of n (val (gen j)) * of n v)) (D : ∀ n, j ≤ n → ∀ h l, h < Q n → l < Q n → tw (n + 1) j (h * Q n + l) = tw n j h * Q n + tw n j l) :
    ∀ n, j + 1 ≤ n → ∀ h l, h < Q n → l < Q n → tw (n + 1) (j + 1) (h * Q n + l) = tw n (j + 1) h * Q n + tw n (j + 1) l ∧ tw n (j + 1) l < Q n := by
  intro n hn h l hh hl
  have hM := M_lt' hn
  have hMQ := M_lt_Q hn
  have hjn : j ≤ n := by omega
  have hQj := z2i j
  -- the higher parts
  have hdiv : (h * Q n + l) / Q j = (h / Q j) * Q n + ((h % Q j) * H j n + l / Q j) := by
    have e1 : h * Q n = (h * H j n) * Q j := by rw [← z5n hjn, Nat.mul_assoc]
    rw [e1, Nat.mul_comm (h * H j n), Nat.mul_add_div hQj]
    have e2 := Nat.div_add_mod h (Q j)
    have e3 : h * H j n = (h / Q j) * Q n + (h % Q j) * H j n := by
      conv => lhs; rw [← e2]
      rw [Nat.add_mul, ← z5n hjn]
      congr 1
      rw [Nat.mul_comm (Q j), Nat.mul_assoc, Nat.mul_comm (Q j)]
    rw [e3, Nat.add_assoc]
  have hlq : l / Q j < H j n := Nat.div_lt_of_lt_mul (by rw [Nat.mul_comm, z5n hjn]; exact hl)
  have hl' : (h % Q j) * H j n + l / Q j < Q n := by
    have h1 : (h % Q j) * H j n + H j n ≤ Q j * H j n := by
      have := Nat.mul_le_mul_right (H j n) (Nat.mod_lt h hQj)
      rw [Nat.succ_mul] at this; exact this
    rw [Nat.mul_comm (Q j), z5n hjn] at h1
    omega
  have hand : ((h % Q j) * H j n + l / Q j) &&& M j n = (l / Q j) &&& M j n := by
    have e1 : ∀ x, x &&& M j n = (x % H j n) &&& M j n := fun x => by
      have h3 : x &&& M j n < H j n := z2j hM
      have h4 : (x &&& M j n) % H j n = x &&& M j n := Nat.mod_eq_of_lt h3
      rw [← h4]; unfold H; rw [Nat.and_mod_two_pow]
      rw [show M j n % 2 ^ (2 ^ n - 2 ^ j) = M j n from Nat.mod_eq_of_lt hM]
    rw [e1, Nat.mul_comm, Nat.mul_add_mod, ← e1]
  have hhi : ((h * Q n + l) / Q j) &&& M j (n + 1) = ((h / Q j) &&& M j n) * Q n + ((l / Q j) &&& M j n) := by
    rw [z5N hn, hdiv, z57 hl' hMQ, hand]
  have hlo : (h * Q n + l) &&& M j (n + 1) = (h &&& M j n) * Q n + (l &&& M j n) := by rw [z5N hn, z57 hl hMQ]
  have b1 : (h / Q j) &&& M j n < Q n := z2j hMQ
  have b2 : (l / Q j) &&& M j n < Q n := z2j hMQ
  have b3 : l &&& M j n < H j n := z2j hM
  have b4 : (l / Q j) &&& M j n < H j n := z2j hM
  have b5 : tw n j ((l / Q j) &&& M j n) < H j n := by
    rw [C n hjn _ b2]
    obtain ⟨d, rfl⟩ := Nat.le.dest hjn
    exact z5i (z4E j) d _ b4
  have b6 : (l &&& M j n) ^^^ tw n j ((l / Q j) &&& M j n) < H j n := Nat.xor_lt_two_pow b3 b5
  have b7 := lt_H_mul hjn b6
  have b8 : tw n j ((l / Q j) &&& M j n) < Q n := Nat.lt_of_lt_of_le b5 (H_le hjn)
  have b9 : l &&& M j n < Q n := z2j hMQ
  constructor
  · simp only [tw]
    rw [hhi, hlo, D n hjn _ _ b1 b2, z5m b9 b8, Nat.add_mul]
    have e5 : ∀ X Y : Nat, Y < Q n → (X * Q n * Q j + Y) % Q (n + 1) = ((X * Q j) % Q n) * Q n + Y := by
      intro X Y hY
      rw [show X * Q n * Q j = X * Q j * Q n by rw [Nat.mul_assoc, Nat.mul_comm (Q n), ← Nat.mul_assoc], z2x]
      rw [Nat.mul_comm (X * Q j), Nat.mod_mul, Nat.mul_add_mod, Nat.mod_eq_of_lt hY, Nat.mul_add_div (z2i n), Nat.div_eq_of_lt hY, Nat.add_zero, Nat.mul_comm (Q n), Nat.add_comm]
    rw [e5 _ _ b7, z6m b7 b2, Nat.mod_eq_of_lt b7]
  · simp only [tw]
    exact or_lt (Nat.mod_lt _ (z2i n)) b2
theorem z6t : ∀ j, (∀ n, j ≤ n → ∀ v, v < Q n → tw n j v = val (of n (val (gen j)) * of n v)) ∧ (∀ n, j ≤ n → ∀ h l, h < Q n → l < Q n → tw (n + 1) j (h * Q n + l) = tw n j h * Q n + tw n j l)
  | 0 => ⟨fun n _ v hv => by rw [z5b, z2r, of_one, one_mul, z1U _ _ hv]; rfl, fun n _ h l _ _ => rfl⟩
  | j + 1 => by
    obtain ⟨C, D⟩ := z6t j
    have D' := tw_split C D
    refine ⟨?_, fun n hn h l hh hl => (D' n hn h l hh hl).1⟩
    intro n hn
    obtain ⟨d, rfl⟩ := Nat.le.dest hn
    clear hn
    induction d with
    | zero =>
      intro v hv
      rw [Nat.add_zero] at hv ⊢
      have hQj := z2i j
      have hd : v / Q j < Q j := Nat.div_lt_of_lt_mul (by rw [← z2x]; exact hv)
      have hm : v % Q j < Q j := Nat.mod_lt _ hQj
      have hmask : ∀ x, x &&& M j (j + 1) = x % Q j := fun x => by rw [M_base]; unfold Q; rw [Nat.and_two_pow_sub_one_eq_mod]
      have e1 : tw (j + 1) j (v / Q j) = val (gen j * of j (v / Q j)) := by
        rw [C (j + 1) (by omega) _ (Nat.lt_of_lt_of_le hd (z5O j)), z3L (d := 1) (z4E j) hd, z1K]
      simp only [tw]
      rw [hmask, hmask, Nat.mod_eq_of_lt hd, e1]
      have hv2 := z1s (gen j * of j (v / Q j))
      have hX := z2a hm hv2
      rw [Nat.mod_eq_of_lt (show _ * Q j < Q (j + 1) by rw [z2x]; exact Nat.mul_lt_mul_of_pos_right hX hQj)]
      have hor : ∀ X, X * Q j ||| (v / Q j) = X * Q j + v / Q j := fun X => by
        have := z6m (n := j) (a := X) (b := 0) (c := 0) (d := v / Q j) hQj hd
        simpa using this
      rw [hor, z1K, z1F]
      congr 1
      · congr 1
        rw [z1X, z2C, z2D, one_mul, zero_mul, one_mul, add_zero, z1Z, z2c, z2l, z1E, z1U _ _ hm]
      · rw [z1Y, z2C, z2D, one_mul, zero_mul, zero_add, z1Z, z2c, z1U _ _ hd]
    | succ d ih =>
      intro v hv
      rw [← Nat.add_assoc] at hv ⊢
      have hvd := Nat.div_add_mod v (Q (j + 1 + d))
      rw [Nat.mul_comm] at hvd
      have h1 : v / Q (j + 1 + d) < Q (j + 1 + d) := Nat.div_lt_of_lt_mul (by rw [← z2x]; exact hv)
      have h2 : v % Q (j + 1 + d) < Q (j + 1 + d) := Nat.mod_lt _ (z2i _)
      have hg : val (gen (j + 1)) < Q (j + 1 + d) := Nat.lt_of_lt_of_le (z4E (j + 1)) (z2U (Nat.le_add_right _ _))
      have e1 : of (j + 1 + d + 1) (val (gen (j + 1))) = up (of (j + 1 + d) (val (gen (j + 1)))) := z4H hg
      rw [e1, z39, z1F, z2c, z2l, z1Z, z2c, z2l, ← ih _ h1, ← ih _ h2]
      conv => lhs; rw [← hvd]
      exact (D' (j + 1 + d) (by omega) _ _ h1 h2).1
theorem tw_eq {j n v : Nat} (h : j ≤ n) (hv : v < Q n) : tw n j v = val (of n (val (gen j)) * of n v) := (z6t j).1 n h v hv
/-- A bit of a level is a product of generators. -/
def gp (n : Nat) : Nat → Nat → T n
  | 0, _ => 1
  | m + 1, i => (if i.testBit m then of n (val (gen (m + 1))) else 1) * gp n m i
theorem gp_up {n : Nat} : ∀ m i, m ≤ n → gp (n + 1) m i = up (gp n m i)
  | 0, i, _ => rfl
  | m + 1, i, h => by
    show (if i.testBit m then of (n + 1) (val (gen (m + 1))) else 1) * gp (n + 1) m i = up ((if i.testBit m then of n (val (gen (m + 1))) else 1) * gp n m i)
    rw [up_mul, gp_up m i (by omega)]
    congr 1
    split
    · exact z4H (Nat.lt_of_lt_of_le (z4E (m + 1)) (z2U h))
    · rfl
theorem gp_mod {n : Nat} : ∀ m i k, m ≤ k → gp n m (i % 2 ^ k) = gp n m i
  | 0, i, k, _ => rfl
  | m + 1, i, k, h => by
    show (if (i % 2 ^ k).testBit m then _ else _) * gp n m (i % 2 ^ k) = (if i.testBit m then _ else _) * gp n m i
    rw [gp_mod m i k (by omega), Nat.testBit_mod_two_pow, decide_eq_true (by omega), Bool.true_and]
theorem gp_bit : ∀ n i, i < 2 ^ n → gp n n i = of n (2 ^ i)
  | 0, i, h => by
    have : i = 0 := by simpa using h
    rw [this]; rfl
  | n + 1, i, h => by
    show (if i.testBit n then of (n + 1) (val (gen (n + 1))) else 1) * gp (n + 1) n i = of (n + 1) (2 ^ i)
    rw [gp_up n i (Nat.le_refl _), ← gp_mod n i n (Nat.le_refl _), gp_bit n _ (Nat.mod_lt _ (Nat.two_pow_pos n))]
    rw [Nat.pow_succ] at h
    by_cases c : i < 2 ^ n
    · rw [Nat.testBit_lt_two_pow c, Nat.mod_eq_of_lt c]
      rw [z4H (show 2 ^ i < Q n from Nat.pow_lt_pow_right (by decide) c)]
      simp only [Bool.false_eq_true, if_false, one_mul]; rfl
    · have hi : i % 2 ^ n = i - 2 ^ n := by rw [Nat.mod_eq_sub_mod (by omega), Nat.mod_eq_of_lt (by omega)]
      have hb : i.testBit n = true := by
        have := Nat.testBit_two_pow_add_eq (i - 2 ^ n) n
        rw [show 2 ^ n + (i - 2 ^ n) = i by omega, Nat.testBit_lt_two_pow (show i - 2 ^ n < 2 ^ n by omega)] at this
        simpa using this
      rw [hb, if_pos rfl, hi, z1K]
      have e : 2 ^ i = 2 ^ (i - 2 ^ n) * Q n + 0 := by
        unfold Q; rw [← Nat.pow_add, Nat.add_zero]; congr 1; omega
      rw [e, z1Z, z2J (z2i n), z2K (z2i n), z2E]
      apply ext
      · rw [z1X, z2C, z2D, z2P, z47, one_mul, zero_mul, mul_zero, mul_zero, add_zero, add_zero]; rfl
      · rw [z1Y, z2C, z2D, z2P, zero_mul, mul_zero, add_zero]; rfl
/-- An element is the sum of its bits. -/
theorem bits_sum {n : Nat} (b k : Nat) (hb : b < Q n) (hk : k < 2 ^ n) : of n (b % 2 ^ (k + 1)) = of n (b % 2 ^ k) + (if b.testBit k then of n (2 ^ k) else 0) := by
  have h2 : 2 ^ k < Q n := Nat.pow_lt_pow_right (by decide) hk
  have h1 : b % 2 ^ k < Q n := Nat.lt_trans (Nat.mod_lt _ (Nat.two_pow_pos k)) h2
  have e : b % 2 ^ (k + 1) = b % 2 ^ k ^^^ (if b.testBit k then 2 ^ k else 0) := by
    apply Nat.eq_of_testBit_eq
    intro i
    rw [Nat.testBit_xor, Nat.testBit_mod_two_pow, Nat.testBit_mod_two_pow]
    by_cases hi : i = k
    · subst hi
      cases hbi : b.testBit i <;> simp
    · by_cases hlt : i < k
      · have : decide (i < k + 1) = true := decide_eq_true (by omega)
        rw [this, decide_eq_true hlt]
        split
        · rw [Nat.testBit_two_pow_of_ne (by omega)]; simp
        · simp
      · rw [decide_eq_false (by omega), decide_eq_false hlt]
        split
        · rw [Nat.testBit_two_pow_of_ne (by omega)]; simp
        · simp
  rw [e]
  split
  · rw [z6h h1 h2]
  · rw [Nat.xor_zero, add_zero]
end Go.Proofs.Ytnhbdhgbmjcjdaa.Tw
namespace Go.Proofs.Ytnhbdhgbmjcjdaa.P
open Go.RowKit Go.Proofs.YtnhbdhgbmjcjdaaW.PrintWords Go.Proofs.YtnhbdhgbmjcjdaaW.PrintLast Go.Proofs.YtnhbdhgbmjcjdaaW.PrintMore
attribute [local go_sem] z10 z12 z1h z1i zQ zR z11 z13   -- for this text's walks alone
set_option linter.unusedVariables false
set_option linter.unusedSimpArgs false
def z18.f (a0 : Int) : Option (Int):=(some (([6148914691236517205,3689348814741910323,1085102592571150095,71777214294589695,281470681808895,4294967295] : List Int) : List Int)).bind fun y101=>(if 0 ≤ a0 then (if a0 < (y101.length : Int) then (some (rd y101 a0)) else (none)) else (none))
set_option maxHeartbeats 8000000 in
set_option maxRecDepth 100000 in
theorem z18.calls (a0 : Int) (r : Int) (w : World) (h : z18.f a0 = some r) :
 Calls Try.prog 90 #[.int .i64 a0] w fun e w'=>e = .returned (.int .u64 r) ∧ Below w.heap.size w w':=by
 have HB:=z1.mk (Below.refl w.heap.size w)
 have H : ((some (([6148914691236517205,3689348814741910323,1085102592571150095,71777214294589695,281470681808895,4294967295] : List Int) : List Int)).bind fun y101=>(if 0 ≤ a0 then (if a0 < (y101.length : Int) then (some (rd y101 a0)) else (none)) else (none))) = some r:=h
 clear h
 obtain ⟨y101,hy101⟩ : ∃ y_ : List Int,y_ = (([6148914691236517205,3689348814741910323,1085102592571150095,71777214294589695,281470681808895,4294967295] : List Int)):=⟨_,rfl⟩
 replace H : (if 0 ≤ a0 then (if a0 < (y101.length : Int) then (some (rd y101 a0)) else (none)) else (none)) = some r:=by first|(rw [hy101];with_reducible exact H)|(have H2_:=(Option.bind_some _ _).symm.trans H;rw [hy101];with_reducible exact H2_)|(have H2_:=(Option.bind_some _ _).symm.trans H;with_reducible exact H2_)|with_reducible exact H|(rw [hy101];exact H)|exact H
 have Ny101:=z1.mk hy101
 clear hy101
 by_cases c2 : 0 ≤ a0
 rotate_left
 · rw [if_neg c2] at H
   exact absurd H zz87
 rw [if_pos c2] at H
 have c2b0 : decide (0 ≤ a0) = true:=decide_eq_true c2
 clear c2
 by_cases c3 : a0 < (y101.length : Int)
 rotate_left
 · rw [if_neg c3] at H
   exact absurd H zz87
 rw [if_pos c3] at H
 have c3b0 : decide (a0 < (y101.length : Int)) = true:=decide_eq_true c3
 clear c3
 obtain rfl:=Option.some.inj H
 go_enter Try.func90,Try.ntmps90
 go_wp2_with (first|((with_reducible refine zE (N:=4) rfl ?_);refine Kd.z34 (Kd.int .u64) _ 33 ?hg (N:=4) ?hd (xs:=([6148914691236517205,3689348814741910323,1085102592571150095,71777214294589695,281470681808895,4294967295] : List Int)) (inner:=[.int .u64 6148914691236517205,.int .u64 3689348814741910323,.int .u64 1085102592571150095,.int .u64 71777214294589695,.int .u64 281470681808895,.int .u64 4294967295]) (ok:=fun _=>True) (okp:=fun _=>True) ?hr ?hp (fun _ hk=>hk) trivial (Below.refl _ _) (Nat.le_refl _) zz87 ?_;(case hd=>rfl);(case hg=>rfl);(case hr=>first|(go_simp;done)|(go_simp;rfl));(case hp=>exact (Reps.one (show Kd.M (Kd.int .u64) _ _ _ 6148914691236517205 [.int .u64 6148914691236517205] from rfl) (Reps.one (show Kd.M (Kd.int .u64) _ _ _ 3689348814741910323 [.int .u64 3689348814741910323] from rfl) (Reps.one (show Kd.M (Kd.int .u64) _ _ _ 1085102592571150095 [.int .u64 1085102592571150095] from rfl) (Reps.one (show Kd.M (Kd.int .u64) _ _ _ 71777214294589695 [.int .u64 71777214294589695] from rfl) (Reps.one (show Kd.M (Kd.int .u64) _ _ _ 281470681808895 [.int .u64 281470681808895] from rfl) (Reps.one (show Kd.M (Kd.int .u64) _ _ _ 4294967295 [.int .u64 4294967295] from rfl) (Reps.none _ _))))))));intro v102 w4 ho5 hb hg_ hnew_;clear hg_ hnew_;(first|rw [← Ny101.out] at ho5|(simp only [Int.reduceToNat] at ho5;rw [← Ny101.out] at ho5));have n0_:=z1.mk (Kd.z1q ho5 (zf zz47));have n1_:=z1.mk (ze zz47 hb);clear HB;have HO103:=n0_;have HB:=n1_;clear n0_ n1_;clear hb ho5;obtain ⟨Ao6,co6,eo6⟩:=Kd.z1e HO103.out;subst eo6;have p104 : 0 ≤ (a0 : Int):=of_decide_eq_true zz81;have q104 : a0 < (y101.length : Int):=of_decide_eq_true zz81;obtain ⟨ad104,e104,hx104_0⟩:=Kd.z5U (Kd.zA HO103.out).2.2 a0 p104 q104;cases e104;replace p104:=eq_true p104;replace q104:=eq_true q104))
 go_ret
 exact ⟨by first|rfl|(simp [zi,zj] <;> rfl)|(simp [*,zi,zj] <;> rfl),by repeat (first|(with_reducible first|exact HB.out|apply zd|apply z3|apply zc)|exact HB.out)⟩
end Go.Proofs.Ytnhbdhgbmjcjdaa.P
namespace Go.Proofs.Ytnhbdhgbmjcjdaa.P
open Go.RowKit Go.Proofs.YtnhbdhgbmjcjdaaW.PrintWords Go.Proofs.YtnhbdhgbmjcjdaaW.PrintLast Go.Proofs.YtnhbdhgbmjcjdaaW.PrintMore
attribute [local go_sem] z10 z12 z1h z1i zQ zR z11 z13   -- for this text's walks alone
set_option linter.unusedVariables false
set_option linter.unusedSimpArgs false
def zq.f : Nat → Int → Int → Option (Int)
 | 0,_,_=>none
 | k + 1,a0,a1=>if a0 < 0 then (some a1) else (if 0 ≤ (IntKind.u64.wrap (a0)) then ((z18.f a0).bind fun t101=>((z18.f a0).bind fun t102=>((zq.f k (wrap64 (a0 - 1)) (Go.bits .and .u64 (shr .u64 a1 (shl .u64 1 (IntKind.u64.wrap (a0)))) t101)).bind fun t103=>(some (Go.bits .or .u64 (shl .u64 (Go.bits .xor .u64 (Go.bits .and .u64 a1 t102) t103) (shl .u64 1 (IntKind.u64.wrap (a0)))) (Go.bits .and .u64 (shr .u64 a1 (shl .u64 1 (IntKind.u64.wrap (a0)))) t101)))))) else (none))
theorem zq.zY : ∀ k,(∀ y0 y1,LeO (zq.f k y0 y1) (zq.f (k + 1) y0 y1))
 | 0=>fun _ _ r h=>by simp [zq.f] at h
 | k + 1=>by
  have ih0:=zq.zY k
  · intro y0 y1
    unfold zq.f
    repeat' first
    | (with_reducible exact ih0 _ _)
    | (with_reducible exact LeO.refl _)
    | (with_reducible exact LeO.none _)
    | (with_reducible refine LeO.ite ?_ ?_)
    | (with_reducible refine LeO.bind ?_ (fun _=>?_))
    | exact ih0 _ _
    | exact LeO.none _
    | refine LeO.ite ?_ ?_
    | refine LeO.bind ?_ (fun _=>?_)
theorem zq.mono : ∀ a0 a1 k,LeO (zq.f k a0 a1) (zq.f (k + 1) a0 a1):=by
 intro a0 a1 k
 have ih0:=zq.zY k
 exact ih0 a0 a1
set_option maxHeartbeats 8000000 in
set_option maxRecDepth 100000 in
theorem zq.calls (k : Nat) : ∀ (a0 : Int) (a1 : Int) (r : Int) (w : World) (h : zq.f k a0 a1 = some r),
 Calls Try.prog 87 #[.int .i64 a0,.int .u64 a1] w fun e w'=>e = .returned (.int .u64 r) ∧ Below w.heap.size w w':=by
 induction k using Nat.strongRecOn with
 | _ k ih =>
 intro a0 a1 r w h
 cases k with
 | zero=>exact absurd h (by simp [zq.f])
 | succ k =>
 simp only [zq.f] at h
 have HB:=z1.mk (Below.refl w.heap.size w)
 have H : (if a0 < 0 then (some a1) else (if 0 ≤ (IntKind.u64.wrap (a0)) then ((z18.f a0).bind fun t101=>((z18.f a0).bind fun t102=>((zq.f k (wrap64 (a0 - 1)) (Go.bits .and .u64 (shr .u64 a1 (shl .u64 1 (IntKind.u64.wrap (a0)))) t101)).bind fun t103=>(some (Go.bits .or .u64 (shl .u64 (Go.bits .xor .u64 (Go.bits .and .u64 a1 t102) t103) (shl .u64 1 (IntKind.u64.wrap (a0)))) (Go.bits .and .u64 (shr .u64 a1 (shl .u64 1 (IntKind.u64.wrap (a0)))) t101)))))) else (none))) = some r:=h
 clear h
 by_cases c3 : a0 < 0
 · rw [if_pos c3] at H
   have c3b0 : decide (a0 < 0) = true:=decide_eq_true c3
   clear c3
   obtain rfl:=Option.some.inj H
   go_enter Try.func87,Try.ntmps87
   go_wp2
   go_ret
   exact ⟨by first|rfl|(simp [zi,zj] <;> rfl)|(simp [*,zi,zj] <;> rfl),by repeat (first|(with_reducible first|exact HB.out|apply zd|apply z3|apply zc)|exact HB.out)⟩
 rw [if_neg c3] at H
 have c3b0 : decide (a0 < 0) = false:=decide_eq_false c3
 clear c3
 obtain ⟨ji4,hji4⟩ : ∃ j_ : Int,(IntKind.u64.wrap (a0)) = j_:=⟨_,rfl⟩
 replace H : (if 0 ≤ (ji4) then ((z18.f a0).bind fun t101=>((z18.f a0).bind fun t102=>((zq.f k (wrap64 (a0 - 1)) (Go.bits .and .u64 (shr .u64 a1 (shl .u64 1 (ji4))) t101)).bind fun t103=>(some (Go.bits .or .u64 (shl .u64 (Go.bits .xor .u64 (Go.bits .and .u64 a1 t102) t103) (shl .u64 1 (ji4))) (Go.bits .and .u64 (shr .u64 a1 (shl .u64 1 (ji4))) t101)))))) else (none)) = some r:=by first|(rw [hji4] at H;exact H)|(simp only [hji4] at H ⊢;exact H)
 by_cases c5 : 0 ≤ (ji4)
 rotate_left
 · rw [if_neg c5] at H
   exact absurd H zz87
 rw [if_pos c5] at H
 have c5b0:=eq_true c5
 have c5b1 : decide (0 ≤ (ji4)) = true:=decide_eq_true c5
 clear c5
 obtain ⟨ji6,hji6⟩ : ∃ j_ : Int,(shl .u64 1 (ji4)) = j_:=⟨_,rfl⟩
 replace H : ((z18.f a0).bind fun t101=>((z18.f a0).bind fun t102=>((zq.f k (wrap64 (a0 - 1)) (Go.bits .and .u64 (shr .u64 a1 (ji6)) t101)).bind fun t103=>(some (Go.bits .or .u64 (shl .u64 (Go.bits .xor .u64 (Go.bits .and .u64 a1 t102) t103) (ji6)) (Go.bits .and .u64 (shr .u64 a1 (ji6)) t101)))))) = some r:=by first|(rw [hji6] at H;exact H)|(simp only [hji6] at H ⊢;exact H)
 have hji6_ : (IntKind.u64.wrap (1 * 2 ^ min (ji4).toNat 64)) = ji6:=hji6
 have hji6z : (ji4) ≤ 64 → (IntKind.u64.wrap (1 * 2 ^ (ji4).toNat)) = ji6:=z1I hji6
 have hji6n0 : 0 ≤ ji6:=by rw [← hji6];exact Int.emod_nonneg _ zz85
 have hji6n1 : decide (0 ≤ ji6) = true:=decide_eq_true hji6n0
 replace hji6n0:=eq_true hji6n0
 have hji6u : (IntKind.u64.wrap (2 ^ min (ji4).toNat 64)) = ji6:=by have h_:=hji6_;rw [Int.one_mul] at h_;exact h_
 have hji6v : (ji4) ≤ 64 → (IntKind.u64.wrap (2 ^ (ji4).toNat)) = ji6:=fun hle_=>by have h_:=hji6z hle_;rw [Int.one_mul] at h_;exact h_
 obtain ⟨ji7,hji7⟩ : ∃ j_ : Int,(shr .u64 a1 (ji6)) = j_:=⟨_,rfl⟩
 replace H : ((z18.f a0).bind fun t101=>((z18.f a0).bind fun t102=>((zq.f k (wrap64 (a0 - 1)) (Go.bits .and .u64 (ji7) t101)).bind fun t103=>(some (Go.bits .or .u64 (shl .u64 (Go.bits .xor .u64 (Go.bits .and .u64 a1 t102) t103) (ji6)) (Go.bits .and .u64 (ji7) t101)))))) = some r:=by first|(rw [hji7] at H;exact H)|(simp only [hji7] at H ⊢;exact H)
 have hji7_ : (a1 / 2 ^ min (ji6).toNat 64) = ji7:=hji7
 have hji7z : (ji6) ≤ 64 → (a1 / 2 ^ (ji6).toNat) = ji7:=z2m hji7
 replace H:=Option.bind_eq_some_iff.mp H
 obtain ⟨t101,A80,H⟩:=H
 replace H : ((z18.f a0).bind fun t102=>((zq.f k (wrap64 (a0 - 1)) (Go.bits .and .u64 (ji7) t101)).bind fun t103=>(some (Go.bits .or .u64 (shl .u64 (Go.bits .xor .u64 (Go.bits .and .u64 a1 t102) t103) (ji6)) (Go.bits .and .u64 (ji7) t101))))) = some r:=H
 have A8:=z1.mk A80
 clear A80
 replace H:=Option.bind_eq_some_iff.mp H
 obtain ⟨t102,A90,H⟩:=H
 replace H : ((zq.f k (wrap64 (a0 - 1)) (Go.bits .and .u64 (ji7) t101)).bind fun t103=>(some (Go.bits .or .u64 (shl .u64 (Go.bits .xor .u64 (Go.bits .and .u64 a1 t102) t103) (ji6)) (Go.bits .and .u64 (ji7) t101)))) = some r:=H
 have A9:=z1.mk A90
 clear A90
 replace H:=Option.bind_eq_some_iff.mp H
 obtain ⟨t103,A100,H⟩:=H
 replace H : (some (Go.bits .or .u64 (shl .u64 (Go.bits .xor .u64 (Go.bits .and .u64 a1 t102) t103) (ji6)) (Go.bits .and .u64 (ji7) t101))) = some r:=H
 have A10:=z1.mk A100
 clear A100
 obtain ⟨ji11,hji11⟩ : ∃ j_ : Int,(shl .u64 (Go.bits .xor .u64 (Go.bits .and .u64 a1 t102) t103) (ji6)) = j_:=⟨_,rfl⟩
 replace H : (some (Go.bits .or .u64 (ji11) (Go.bits .and .u64 (ji7) t101))) = some r:=by first|(rw [hji11] at H;exact H)|(simp only [hji11] at H ⊢;exact H)
 (try rw [hji11] at A8)
 (try rw [hji11] at A9)
 (try rw [hji11] at A10)
 have hji11_ : (IntKind.u64.wrap ((Go.bits .xor .u64 (Go.bits .and .u64 a1 t102) t103) * 2 ^ min (ji6).toNat 64)) = ji11:=hji11
 have hji11z : (ji6) ≤ 64 → (IntKind.u64.wrap ((Go.bits .xor .u64 (Go.bits .and .u64 a1 t102) t103) * 2 ^ (ji6).toNat)) = ji11:=z1I hji11
 have hji11n0 : 0 ≤ ji11:=by rw [← hji11];exact Int.emod_nonneg _ zz85
 have hji11n1 : decide (0 ≤ ji11) = true:=decide_eq_true hji11n0
 replace hji11n0:=eq_true hji11n0
 obtain rfl:=Option.some.inj H
 go_enter Try.func87,Try.ntmps87
 go_wp2_with (first|((with_reducible refine zo (f:=90) rfl ?_);refine goesL_ (some 18) rfl rfl Try.func90 zz84 rfl #[.int .i64 a0] rfl zz45 ?_;(with_reducible refine (z18.calls a0 t101 _ A8.out).mono ?_);rintro e w12 ⟨rfl,hb⟩;refine ⟨_,rfl,?_⟩;have n0_:=z1.mk (ze zz47 hb);clear HB;have HB:=n0_;clear n0_;(try clear hb);(try clear hb2);(try clear hk);(try clear hi))|((with_reducible refine zo (f:=90) rfl ?_);refine goesL_ (some 22) rfl rfl Try.func90 zz84 rfl #[.int .i64 a0] rfl zz45 ?_;(with_reducible refine (z18.calls a0 t102 _ A9.out).mono ?_);rintro e w13 ⟨rfl,hb⟩;refine ⟨_,rfl,?_⟩;have n0_:=z1.mk (ze zz47 hb);clear HB;have HB:=n0_;clear n0_;(try clear hb);(try clear hb2);(try clear hk);(try clear hi))|((with_reducible refine zo (f:=87) rfl ?_);refine goesL_ (some 28) rfl rfl Try.func87 zz84 rfl #[.int .i64 (wrap64 (a0 - 1)),.int .u64 (Go.bits .and .u64 (ji7) t101)] rfl (by (try simp only [List.map_toArray,List.map_cons,List.map_nil]);first|done|(simp only [hji7];rfl)|rfl|(simp only [List.length_drop,List.length_take];rfl)) ?_;(with_reducible refine (ih k zz86 (wrap64 (a0 - 1)) (Go.bits .and .u64 (ji7) t101) t103 _ A10.out).mono ?_);rintro e w14 ⟨rfl,hb⟩;refine ⟨_,rfl,?_⟩;have n0_:=z1.mk (ze zz47 hb);clear HB;have HB:=n0_;clear n0_;(try clear hb);(try clear hb2);(try clear hk);(try clear hi)))
 go_ret
 exact ⟨by first|rfl|(simp [zi,zj] <;> rfl)|(simp only [← hji4,← hji6,← hji7,← hji11];first|rfl|(simp [zi,zj] <;> rfl))|(simp [*,zi,zj] <;> rfl),by repeat (first|(with_reducible first|exact HB.out|apply zd|apply z3|apply zc)|exact HB.out)⟩
end Go.Proofs.Ytnhbdhgbmjcjdaa.P
namespace Go.Proofs.Ytnhbdhgbmjcjdaa.P
open Go.RowKit Go.Proofs.YtnhbdhgbmjcjdaaW.PrintWords Go.Proofs.YtnhbdhgbmjcjdaaW.PrintLast Go.Proofs.YtnhbdhgbmjcjdaaW.PrintMore
attribute [local go_sem] z10 z12 z1h z1i zQ zR z11 z13   -- for this text's walks alone
set_option linter.unusedVariables false
set_option linter.unusedSimpArgs false
def zx.f (k : Nat) (a0 : Int) (a1_0 : Int) (a1_1 : Int) : Option (Int × Int):=if a0 < 6 then ((zq.f k a0 a1_0).bind fun t103=>((zq.f k a0 a1_1).bind fun t104=>(some (t103,t104)))) else ((zq.f k 5 a1_0).bind fun t105=>(some (Go.bits .xor .u64 a1_1 t105,a1_0)))
theorem zx.mono : ∀ a0 a1 a2 k,LeO (zx.f k a0 a1 a2) (zx.f (k + 1) a0 a1 a2):=by
 intro a0 a1 a2 k
 unfold zx.f
 repeat' first
  | (with_reducible exact zq.mono _ _ _)
  | (with_reducible exact LeO.refl _)
  | (with_reducible exact LeO.none _)
  | (with_reducible refine LeO.ite ?_ ?_)
  | (with_reducible refine LeO.bind ?_ (fun _=>?_))
  | exact zq.mono _ _ _
  | exact LeO.none _
  | refine LeO.ite ?_ ?_
  | refine LeO.bind ?_ (fun _=>?_)
def zx.T2 : Bool × List (List Nat × List Nat):=(true,[([],[]),([],[]),([1],[1]),([0,2],[0,2]),([],[]),([],[]),([5],[5]),([4,6,3],[4,6]),([3,7],[3,7]),([8,7,0,1,2,3,4,5,6,7,8],[8])])
def zx.B2 : List Nat:=[0,0,2,7,0,0,32,127,255,511]
theorem zx.tab2 : rtab .any (opsOf Try.f79 2) = zx.T2:=by kernel_rfl
theorem zx.bits2 : waitsOk zx.T2.2 zx.B2 = true:=by kernel_rfl
def zx.T3 : Bool × List (List Nat × List Nat):=(true,[([],[]),([0],[0]),([],[]),([2],[2]),([3],[3]),([1,4],[1,4]),([],[]),([6],[6]),([5,7],[5,7]),([8,4,0,1,2,3,4,5,6,7,8],[8])])
def zx.B3 : List Nat:=[0,1,0,4,12,31,0,64,255,511]
theorem zx.tab3 : rtab .any (opsOf Try.f79 3) = zx.T3:=by kernel_rfl
theorem zx.bits3 : waitsOk zx.T3.2 zx.B3 = true:=by kernel_rfl
set_option maxHeartbeats 8000000 in
set_option maxRecDepth 100000 in
theorem zx.calls (k : Nat) (a0 : Int) (a1_0 : Int) (a1_1 : Int) (r1 : Int) (r2 : Int) (w : World) (h : zx.f k a0 a1_0 a1_1 = some (r1,r2)) :
 Calls Try.prog 79 #[.int .i64 a0,.agg #[.int .u64 a1_0,.int .u64 a1_1]] w fun e w'=>e = .returned (.agg #[.int .u64 r1,.int .u64 r2]) ∧ Below w.heap.size w w':=by
 have hu38:=Try.underlying38
 have HB:=z1.mk (Below.refl w.heap.size w)
 have H : (if a0 < 6 then ((zq.f k a0 a1_0).bind fun t103=>((zq.f k a0 a1_1).bind fun t104=>(some (t103,t104)))) else ((zq.f k 5 a1_0).bind fun t105=>(some (Go.bits .xor .u64 a1_1 t105,a1_0)))) = some (r1,r2):=h
 clear h
 by_cases c3 : a0 < 6
 rotate_left
 · rw [if_neg c3] at H
   have c3b0 : decide (a0 < 6) = false:=decide_eq_false c3
   clear c3
   replace H:=Option.bind_eq_some_iff.mp H
   obtain ⟨t105,A130,H⟩:=H
   replace H : (some (Go.bits .xor .u64 a1_1 t105,a1_0)) = some (r1,r2):=H
   have A13:=z1.mk A130
   clear A130
   simp only [Option.some.injEq,Prod.mk.injEq] at H
   obtain ⟨rfl,rfl⟩:=H
   go_enter Try.func79,Try.ntmps79
   try go_wp2_with (first|((with_reducible refine zE (N:=3) rfl ?_);refine zC ?hg (N:=3) ?hd (cs:=#[.int .u64 a1_0,.int .u64 a1_1]) (t:=38) ?hr ?_;(case hd=>rfl);(case hg=>rfl);(case hr=>first|(go_simp;done)|(go_simp;rfl));intro gb101 hg w14 hbox hb;have n0_:=z1.mk (ze zz47 hb);have n1_:=z1.mk (hbox);have n2_:=z1.mk ((by rw [hg];exact (zf zz47) : w.heap.size ≤ gb101));have n3_:=z1.mk ((by rw [hg];exact (zf zz47) : w.heap.size ≤ gb101));clear HB;have HB:=n0_;have BK101:=n1_;have GW101:=n2_;have GE101:=n3_;clear n0_ n1_ n2_ n3_;clear hb hbox hg)|((with_reducible refine zE (N:=4) rfl ?_);refine zC ?hg (N:=4) ?hd (cs:=#[.int .u64 0,.int .u64 0]) (t:=38) ?hr ?_;(case hd=>rfl);(case hg=>rfl);(case hr=>first|(go_simp;done)|(go_simp;rfl));intro gb102 hg w15 hbox hb;have n0_:=z1.mk (z9 (g:=gb101) (o:=.cells #[.int .u64 a1_0,.int .u64 a1_1] 38 (0,0)) zz49 hb);have n1_:=z1.mk (ze zz41 hb);have n2_:=z1.mk (hbox);have n3_:=z1.mk ((by rw [hg];exact (zf zz41) : w.heap.size ≤ gb102));have n4_:=z1.mk ((by rw [hg];exact (zf zz41) : w.heap.size ≤ gb102));have n5_:=z1.mk ((by rw [hg];exact Nat.ne_of_lt (zw (g:=gb101) (o:=.cells #[.int .u64 a1_0,.int .u64 a1_1] 38 (0,0)) zz49) : gb101 ≠ gb102));have n6_:=z1.mk ((by rw [hg];exact Nat.ne_of_gt (zw (g:=gb101) (o:=.cells #[.int .u64 a1_0,.int .u64 a1_1] 38 (0,0)) zz49) : gb102 ≠ gb101));clear BK101;clear HB;have BK101:=n0_;have HB:=n1_;have BK102:=n2_;have GW102:=n3_;have GE102:=n4_;have NB101_102:=n5_;have NB102_101:=n6_;clear n0_ n1_ n2_ n3_ n4_ n5_ n6_;clear hb hbox hg))
   have n0_:=z1.mk (zb BK101.out)
   have n1_:=z1.mk (zb BK102.out)
   have n2_:=z1.mk (zc HB.out)
   clear BK101
   clear BK102
   clear HB
   have BK101:=n0_
   have BK102:=n1_
   have HB:=n2_
   clear n0_ n1_ n2_
   refine start_ (n:=10) (S:=fun w'=>w'.cell? ⟨gb101,0,none⟩ = some (.int .u64 a1_0) ∧ w'.cell? ⟨gb101,1,none⟩ = some (.int .u64 a1_1)) (ds:=[]) #[false,false,false,false,false,false,false,false,false,false] zz84 rfl rfl ⟨(z5 BK101.out 0).trans rfl,(z5 BK101.out 1).trans rfl⟩ (fun hHeld=>?_);refine z23 zx.tab3 zx.bits3 (fun HT_ HW_=>?_)
   generalize w15.drew = w16 at BK101 BK102 HB hHeld ⊢
   refine pure_ (i:=0) (N:=some 16) (v:=?_) (a':=?_) #[true,false,false,false,false,false,false,false,false,false] rfl rfl (zW HT_.out zz84) (fun _ _ _ h=>h) (Or.inl ⟨by rfl,?_⟩) ?_ ?_
   rotate_left
   · intro w'
     go_simp
     with_reducible rfl
   rotate_left
   · simp only [Act.put,List.setIfInBounds_toArray,List.set_cons_zero,List.set_cons_succ,zH,zI]
     rfl
   refine pure_ (i:=2) (N:=some 18) (v:=?_) (a':=?_) #[true,false,true,false,false,false,false,false,false,false] rfl rfl (zW HT_.out zz84) (fun _ _ _ h=>h) (Or.inl ⟨by rfl,?_⟩) ?_ ?_
   rotate_left
   · intro w'
     go_simp
     with_reducible rfl
   rotate_left
   · simp only [Act.put,List.setIfInBounds_toArray,List.set_cons_zero,List.set_cons_succ,zH,zI]
     rfl
   refine pure_ (i:=6) (N:=some 22) (v:=?_) (a':=?_) #[true,false,true,false,false,false,true,false,false,false] rfl rfl (zW HT_.out zz84) (fun _ _ _ h=>h) (Or.inl ⟨by rfl,?_⟩) ?_ ?_
   rotate_left
   · intro w'
     go_simp
     with_reducible rfl
   rotate_left
   · simp only [Act.put,List.setIfInBounds_toArray,List.set_cons_zero,List.set_cons_succ,zH,zI]
     rfl
   refine take_ (i:=1) (N:=some 17) (v:=?_) (a':=?_) #[true,true,true,false,false,false,true,false,false,false] rfl rfl (z1N HT_.out HW_.out zz84) (fun _ _ _ h=>h) (Or.inl ⟨by rfl,?_⟩) hHeld ?_ ?_
   rotate_left
   · rintro w' ⟨s0,s1⟩
     go_simp
     with_reducible rfl
   rotate_left
   · simp only [Act.put,List.setIfInBounds_toArray,List.set_cons_zero,List.set_cons_succ,zH,zI]
     rfl
   refine take_ (i:=3) (N:=some 19) (v:=?_) (a':=?_) #[true,true,true,true,false,false,true,false,false,false] rfl rfl (z1N HT_.out HW_.out zz84) (fun _ _ _ h=>h) (Or.inl ⟨by rfl,?_⟩) hHeld ?_ ?_
   rotate_left
   · rintro w' ⟨s0,s1⟩
     go_simp
     with_reducible rfl
   rotate_left
   · simp only [Act.put,List.setIfInBounds_toArray,List.set_cons_zero,List.set_cons_succ,zH,zI]
     rfl
   refine take_ (i:=7) (N:=some 23) (v:=?_) (a':=?_) #[true,true,true,true,false,false,true,true,false,false] rfl rfl (z1N HT_.out HW_.out zz84) (fun _ _ _ h=>h) (Or.inl ⟨by rfl,?_⟩) hHeld ?_ ?_
   rotate_left
   · rintro w' ⟨s0,s1⟩
     go_simp
     with_reducible rfl
   rotate_left
   · simp only [Act.put,List.setIfInBounds_toArray,List.set_cons_zero,List.set_cons_succ,zH,zI]
     rfl
   refine one_ (i:=4) (N:=some 20) #[true,true,true,true,true,false,true,true,false,false] rfl rfl (z21 HT_.out zz84) zz85 (fun K hK=>?_)
   refine goes_ Try.func87 zz84 rfl #[.int .i64 5,.int .u64 a1_0] zz88 rfl rfl zz45 ?_
   with_reducible refine (zq.calls k 5 a1_0 t105 _ A13.out).mono ?_
   rintro e w17 ⟨rfl,hb⟩
   refine ⟨_,rfl,?_⟩
   have n0_:=z1.mk (z9 (g:=gb101) (o:=.cells #[.int .u64 a1_0,.int .u64 a1_1] 38 (0,0)) zz49 hb)
   have n1_:=z1.mk (z9 (g:=gb102) (o:=.cells #[.int .u64 0,.int .u64 0] 38 (0,0)) zz50 hb)
   have n2_:=z1.mk (ze zz36 hb)
   clear BK101
   clear BK102
   clear HB
   have BK101:=n0_
   have BK102:=n1_
   have HB:=n2_
   clear n0_ n1_ n2_
   (try clear hb)
   (try clear hb2)
   (try clear hk)
   (try clear hi)
   refine hK.out _ _ ⟨(z5 BK101.out 0).trans rfl,(z5 BK101.out 1).trans rfl⟩ (fun hHeld=>?_)
   clear hK K
   refine norm_ (a':=?_) ?_ ?_
   rotate_left
   · show Act.put _ (some 20) _ = _
     simp only [Act.put,List.setIfInBounds_toArray,List.set_cons_zero,List.set_cons_succ,zH,zI]
     rfl
   refine pure_ (i:=5) (N:=some 21) (v:=?_) (a':=?_) #[true,true,true,true,true,true,true,true,false,false] rfl rfl (zW HT_.out zz84) (fun _ _ _ h=>h) (Or.inl ⟨by rfl,?_⟩) ?_ ?_
   rotate_left
   · intro w'
     go_simp
     with_reducible rfl
   rotate_left
   · simp only [Act.put,List.setIfInBounds_toArray,List.set_cons_zero,List.set_cons_succ,zH,zI]
     rfl
   refine pure_ (i:=8) (N:=some 24) (v:=?_) (a':=?_) #[true,true,true,true,true,true,true,true,true,false] rfl rfl (zW HT_.out zz84) (fun _ _ _ h=>h) (Or.inl ⟨by rfl,?_⟩) ?_ ?_
   rotate_left
   · intro w'
     go_simp
     with_reducible rfl
   rotate_left
   · simp only [Act.put,List.setIfInBounds_toArray,List.set_cons_zero,List.set_cons_succ,zH,zI]
     rfl
   refine one_ (i:=9) (N:=none) #[true,true,true,true,true,true,true,true,true,true] rfl rfl (z21 HT_.out zz84) zz85 (fun K hK=>?_)
   have hs18 : w17.cell? ⟨gb102,0,none⟩ = some (.int .u64 0):=(z5 BK102.out 0).trans rfl
   have hfs18:=z4 BK102.out 0
   have hns18_0:=NB101_102.out
   have hms18_0:=NB102_101.out
   have hs19 : w17.cell? ⟨gb102,1,none⟩ = some (.int .u64 0):=(z5 BK102.out 1).trans rfl
   have hfs19:=z4 BK102.out 1
   have hns19_0:=NB101_102.out
   have hms19_0:=NB102_101.out
   refine skip_ (w1:=?_) zz88 rfl ?_ ?_
   rotate_left
   · go_simp
     rfl
   refine hK.out _ _ ⟨((z1P (p:=⟨gb102,_,none⟩) NB101_102.out _).trans (((z1P (p:=⟨gb102,_,none⟩) NB101_102.out _).trans (hHeld.1)))),((z1P (p:=⟨gb102,_,none⟩) NB101_102.out _).trans (((z1P (p:=⟨gb102,_,none⟩) NB101_102.out _).trans (hHeld.2))))⟩ (fun hHeld=>?_)
   clear hK K
   refine done_ (z2A HT_.out zz84) ?_
   try go_wp2
   refine bodyPost_ret (results_cell_row rfl _ _ gb102 38 #[.int .u64 (Go.bits .xor .u64 a1_1 t105),.int .u64 a1_0] (0,0) _ rfl (by (with_reducible repeat (first|refine z8 ?_ _|refine zb ?_|refine z7 ?_ _));refine zT (cs:=#[.int .u64 (Go.bits .xor .u64 a1_1 t105),.int .u64 0]) ?_ 1 _ rfl;(with_reducible repeat (first|refine z8 ?_ _|refine zb ?_|refine z7 ?_ _));refine zT (cs:=#[.int .u64 0,.int .u64 0]) ?_ 0 _ rfl;(with_reducible repeat (first|refine z8 ?_ _|refine zb ?_|refine z7 ?_ _));exact BK102.out) Try.underlying38 rfl zz84) rfl ?_
   exact ⟨by first|rfl|(simp [zi,zj] <;> rfl)|(simp [*,zi,zj] <;> rfl),by repeat (first|(with_reducible first|exact HB.out|apply zd|apply z3|apply zc|refine za ?_ GE101.out|refine za ?_ GE102.out)|exact HB.out)⟩
 rw [if_pos c3] at H
 have c3b0 : decide (a0 < 6) = true:=decide_eq_true c3
 clear c3
 replace H:=Option.bind_eq_some_iff.mp H
 obtain ⟨t103,A40,H⟩:=H
 replace H : ((zq.f k a0 a1_1).bind fun t104=>(some (t103,t104))) = some (r1,r2):=H
 have A4:=z1.mk A40
 clear A40
 replace H:=Option.bind_eq_some_iff.mp H
 obtain ⟨t104,A50,H⟩:=H
 replace H : (some (t103,t104)) = some (r1,r2):=H
 have A5:=z1.mk A50
 clear A50
 simp only [Option.some.injEq,Prod.mk.injEq] at H
 obtain ⟨rfl,rfl⟩:=H
 go_enter Try.func79,Try.ntmps79
 try go_wp2_with (first|((with_reducible refine zE (N:=3) rfl ?_);refine zC ?hg (N:=3) ?hd (cs:=#[.int .u64 a1_0,.int .u64 a1_1]) (t:=38) ?hr ?_;(case hd=>rfl);(case hg=>rfl);(case hr=>first|(go_simp;done)|(go_simp;rfl));intro gb101 hg w6 hbox hb;have n0_:=z1.mk (ze zz47 hb);have n1_:=z1.mk (hbox);have n2_:=z1.mk ((by rw [hg];exact (zf zz47) : w.heap.size ≤ gb101));have n3_:=z1.mk ((by rw [hg];exact (zf zz47) : w.heap.size ≤ gb101));clear HB;have HB:=n0_;have BK101:=n1_;have GW101:=n2_;have GE101:=n3_;clear n0_ n1_ n2_ n3_;clear hb hbox hg)|((with_reducible refine zE (N:=4) rfl ?_);refine zC ?hg (N:=4) ?hd (cs:=#[.int .u64 0,.int .u64 0]) (t:=38) ?hr ?_;(case hd=>rfl);(case hg=>rfl);(case hr=>first|(go_simp;done)|(go_simp;rfl));intro gb102 hg w7 hbox hb;have n0_:=z1.mk (z9 (g:=gb101) (o:=.cells #[.int .u64 a1_0,.int .u64 a1_1] 38 (0,0)) zz49 hb);have n1_:=z1.mk (ze zz41 hb);have n2_:=z1.mk (hbox);have n3_:=z1.mk ((by rw [hg];exact (zf zz41) : w.heap.size ≤ gb102));have n4_:=z1.mk ((by rw [hg];exact (zf zz41) : w.heap.size ≤ gb102));have n5_:=z1.mk ((by rw [hg];exact Nat.ne_of_lt (zw (g:=gb101) (o:=.cells #[.int .u64 a1_0,.int .u64 a1_1] 38 (0,0)) zz49) : gb101 ≠ gb102));have n6_:=z1.mk ((by rw [hg];exact Nat.ne_of_gt (zw (g:=gb101) (o:=.cells #[.int .u64 a1_0,.int .u64 a1_1] 38 (0,0)) zz49) : gb102 ≠ gb101));clear BK101;clear HB;have BK101:=n0_;have HB:=n1_;have BK102:=n2_;have GW102:=n3_;have GE102:=n4_;have NB101_102:=n5_;have NB102_101:=n6_;clear n0_ n1_ n2_ n3_ n4_ n5_ n6_;clear hb hbox hg))
 have n0_:=z1.mk (zb BK101.out)
 have n1_:=z1.mk (zb BK102.out)
 have n2_:=z1.mk (zc HB.out)
 clear BK101
 clear BK102
 clear HB
 have BK101:=n0_
 have BK102:=n1_
 have HB:=n2_
 clear n0_ n1_ n2_
 refine start_ (n:=10) (S:=fun w'=>w'.cell? ⟨gb101,0,none⟩ = some (.int .u64 a1_0) ∧ w'.cell? ⟨gb101,1,none⟩ = some (.int .u64 a1_1)) (ds:=[]) #[false,false,false,false,false,false,false,false,false,false] zz84 rfl rfl ⟨(z5 BK101.out 0).trans rfl,(z5 BK101.out 1).trans rfl⟩ (fun hHeld=>?_);refine z23 zx.tab2 zx.bits2 (fun HT_ HW_=>?_)
 generalize w7.drew = w8 at BK101 BK102 HB hHeld ⊢
 refine pure_ (i:=0) (N:=some 7) (v:=?_) (a':=?_) #[true,false,false,false,false,false,false,false,false,false] rfl rfl (zW HT_.out zz84) (fun _ _ _ h=>h) (Or.inl ⟨by rfl,?_⟩) ?_ ?_
 rotate_left
 · intro w'
   go_simp
   with_reducible rfl
 rotate_left
 · simp only [Act.put,List.setIfInBounds_toArray,List.set_cons_zero,List.set_cons_succ,zH,zI]
   rfl
 refine pure_ (i:=1) (N:=some 8) (v:=?_) (a':=?_) #[true,true,false,false,false,false,false,false,false,false] rfl rfl (zW HT_.out zz84) (fun _ _ _ h=>h) (Or.inl ⟨by rfl,?_⟩) ?_ ?_
 rotate_left
 · intro w'
   go_simp
   with_reducible rfl
 rotate_left
 · simp only [Act.put,List.setIfInBounds_toArray,List.set_cons_zero,List.set_cons_succ,zH,zI]
   rfl
 refine pure_ (i:=4) (N:=some 11) (v:=?_) (a':=?_) #[true,true,false,false,true,false,false,false,false,false] rfl rfl (zW HT_.out zz84) (fun _ _ _ h=>h) (Or.inl ⟨by rfl,?_⟩) ?_ ?_
 rotate_left
 · intro w'
   go_simp
   with_reducible rfl
 rotate_left
 · simp only [Act.put,List.setIfInBounds_toArray,List.set_cons_zero,List.set_cons_succ,zH,zI]
   rfl
 refine pure_ (i:=5) (N:=some 12) (v:=?_) (a':=?_) #[true,true,false,false,true,true,false,false,false,false] rfl rfl (zW HT_.out zz84) (fun _ _ _ h=>h) (Or.inl ⟨by rfl,?_⟩) ?_ ?_
 rotate_left
 · intro w'
   go_simp
   with_reducible rfl
 rotate_left
 · simp only [Act.put,List.setIfInBounds_toArray,List.set_cons_zero,List.set_cons_succ,zH,zI]
   rfl
 refine take_ (i:=2) (N:=some 9) (v:=?_) (a':=?_) #[true,true,true,false,true,true,false,false,false,false] rfl rfl (z1N HT_.out HW_.out zz84) (fun _ _ _ h=>h) (Or.inl ⟨by rfl,?_⟩) hHeld ?_ ?_
 rotate_left
 · rintro w' ⟨s0,s1⟩
   go_simp
   with_reducible rfl
 rotate_left
 · simp only [Act.put,List.setIfInBounds_toArray,List.set_cons_zero,List.set_cons_succ,zH,zI]
   rfl
 refine take_ (i:=6) (N:=some 13) (v:=?_) (a':=?_) #[true,true,true,false,true,true,true,false,false,false] rfl rfl (z1N HT_.out HW_.out zz84) (fun _ _ _ h=>h) (Or.inl ⟨by rfl,?_⟩) hHeld ?_ ?_
 rotate_left
 · rintro w' ⟨s0,s1⟩
   go_simp
   with_reducible rfl
 rotate_left
 · simp only [Act.put,List.setIfInBounds_toArray,List.set_cons_zero,List.set_cons_succ,zH,zI]
   rfl
 refine one_ (i:=3) (N:=some 10) #[true,true,true,true,true,true,true,false,false,false] rfl rfl (z21 HT_.out zz84) zz85 (fun K hK=>?_)
 refine goes_ Try.func87 zz84 rfl #[.int .i64 a0,.int .u64 a1_0] zz88 rfl rfl zz45 ?_
 with_reducible refine (zq.calls k a0 a1_0 t103 _ A4.out).mono ?_
 rintro e w9 ⟨rfl,hb⟩
 refine ⟨_,rfl,?_⟩
 have n0_:=z1.mk (z9 (g:=gb101) (o:=.cells #[.int .u64 a1_0,.int .u64 a1_1] 38 (0,0)) zz49 hb)
 have n1_:=z1.mk (z9 (g:=gb102) (o:=.cells #[.int .u64 0,.int .u64 0] 38 (0,0)) zz50 hb)
 have n2_:=z1.mk (ze zz36 hb)
 clear BK101
 clear BK102
 clear HB
 have BK101:=n0_
 have BK102:=n1_
 have HB:=n2_
 clear n0_ n1_ n2_
 (try clear hb)
 (try clear hb2)
 (try clear hk)
 (try clear hi)
 refine hK.out _ _ ⟨(z5 BK101.out 0).trans rfl,(z5 BK101.out 1).trans rfl⟩ (fun hHeld=>?_)
 clear hK K
 refine norm_ (a':=?_) ?_ ?_
 rotate_left
 · show Act.put _ (some 10) _ = _
   simp only [Act.put,List.setIfInBounds_toArray,List.set_cons_zero,List.set_cons_succ,zH,zI]
   rfl
 refine one_ (i:=7) (N:=some 14) #[true,true,true,true,true,true,true,true,false,false] rfl rfl (z21 HT_.out zz84) zz85 (fun K hK=>?_)
 refine goes_ Try.func87 zz84 rfl #[.int .i64 a0,.int .u64 a1_1] zz88 rfl rfl zz45 ?_
 with_reducible refine (zq.calls k a0 a1_1 t104 _ A5.out).mono ?_
 rintro e w10 ⟨rfl,hb⟩
 refine ⟨_,rfl,?_⟩
 have n0_:=z1.mk (z9 (g:=gb101) (o:=.cells #[.int .u64 a1_0,.int .u64 a1_1] 38 (0,0)) zz49 hb)
 have n1_:=z1.mk (z9 (g:=gb102) (o:=.cells #[.int .u64 0,.int .u64 0] 38 (0,0)) zz50 hb)
 have n2_:=z1.mk (ze zz36 hb)
 clear BK101
 clear BK102
 clear HB
 have BK101:=n0_
 have BK102:=n1_
 have HB:=n2_
 clear n0_ n1_ n2_
 (try clear hb)
 (try clear hb2)
 (try clear hk)
 (try clear hi)
 refine hK.out _ _ ⟨(z5 BK101.out 0).trans rfl,(z5 BK101.out 1).trans rfl⟩ (fun hHeld=>?_)
 clear hK K
 refine norm_ (a':=?_) ?_ ?_
 rotate_left
 · show Act.put _ (some 14) _ = _
   simp only [Act.put,List.setIfInBounds_toArray,List.set_cons_zero,List.set_cons_succ,zH,zI]
   rfl
 refine pure_ (i:=8) (N:=some 15) (v:=?_) (a':=?_) #[true,true,true,true,true,true,true,true,true,false] rfl rfl (zW HT_.out zz84) (fun _ _ _ h=>h) (Or.inl ⟨by rfl,?_⟩) ?_ ?_
 rotate_left
 · intro w'
   go_simp
   with_reducible rfl
 rotate_left
 · simp only [Act.put,List.setIfInBounds_toArray,List.set_cons_zero,List.set_cons_succ,zH,zI]
   rfl
 refine one_ (i:=9) (N:=none) #[true,true,true,true,true,true,true,true,true,true] rfl rfl (z21 HT_.out zz84) zz85 (fun K hK=>?_)
 have hs11 : w10.cell? ⟨gb102,0,none⟩ = some (.int .u64 0):=(z5 BK102.out 0).trans rfl
 have hfs11:=z4 BK102.out 0
 have hns11_0:=NB101_102.out
 have hms11_0:=NB102_101.out
 have hs12 : w10.cell? ⟨gb102,1,none⟩ = some (.int .u64 0):=(z5 BK102.out 1).trans rfl
 have hfs12:=z4 BK102.out 1
 have hns12_0:=NB101_102.out
 have hms12_0:=NB102_101.out
 refine skip_ (w1:=?_) zz88 rfl ?_ ?_
 rotate_left
 · go_simp
   rfl
 refine hK.out _ _ ⟨((z1P (p:=⟨gb102,_,none⟩) NB101_102.out _).trans (((z1P (p:=⟨gb102,_,none⟩) NB101_102.out _).trans (hHeld.1)))),((z1P (p:=⟨gb102,_,none⟩) NB101_102.out _).trans (((z1P (p:=⟨gb102,_,none⟩) NB101_102.out _).trans (hHeld.2))))⟩ (fun hHeld=>?_)
 clear hK K
 refine done_ (z2A HT_.out zz84) ?_
 try go_wp2
 refine bodyPost_ret (results_cell_row rfl _ _ gb102 38 #[.int .u64 t103,.int .u64 t104] (0,0) _ rfl (by (with_reducible repeat (first|refine z8 ?_ _|refine zb ?_|refine z7 ?_ _));refine zT (cs:=#[.int .u64 t103,.int .u64 0]) ?_ 1 _ rfl;(with_reducible repeat (first|refine z8 ?_ _|refine zb ?_|refine z7 ?_ _));refine zT (cs:=#[.int .u64 0,.int .u64 0]) ?_ 0 _ rfl;(with_reducible repeat (first|refine z8 ?_ _|refine zb ?_|refine z7 ?_ _));exact BK102.out) Try.underlying38 rfl zz84) rfl ?_
 exact ⟨by first|rfl|(simp [zi,zj] <;> rfl)|(simp [*,zi,zj] <;> rfl),by repeat (first|(with_reducible first|exact HB.out|apply zd|apply z3|apply zc|refine za ?_ GE101.out|refine za ?_ GE102.out)|exact HB.out)⟩
end Go.Proofs.Ytnhbdhgbmjcjdaa.P
namespace Go.Proofs.Ytnhbdhgbmjcjdaa.P
open Go.RowKit Go.Proofs.YtnhbdhgbmjcjdaaW.PrintWords Go.Proofs.YtnhbdhgbmjcjdaaW.PrintLast Go.Proofs.YtnhbdhgbmjcjdaaW.PrintMore
attribute [local go_sem] z10 z12 z1h z1i zQ zR z11 z13   -- for this text's walks alone
set_option linter.unusedVariables false
set_option linter.unusedSimpArgs false
mutual
def zl.l0 : Nat → Int → Int → Int → Int → Int → Int → Int → Option (Int × Int)
 | 0,_,_,_,_,_,_,_=>none
 | k + 1,x6,x102000,x102001,x103000,x103001,x105000,x105001=>if x6 < 128 then ((zv.f k x103000 x103001 x6).bind fun t105=>(if t105 = true then (zl.l1 k x6 0 x102000 x102001 x103000 x103001 x105000 x105001 x102000 x102001) else (zl.l0 k (wrap64 (x6 + 1)) x102000 x102001 x103000 x103001 x105000 x105001))) else (some (x105000,x105001))
def zl.l1 : Nat → Int → Int → Int → Int → Int → Int → Int → Int → Int → Int → Option (Int × Int)
 | 0,_,_,_,_,_,_,_,_,_,_=>none
 | k + 1,x6,x8,x102000,x102001,x103000,x103001,x105000,x105001,x107000,x107001=>if x8 < 7 then (if 0 ≤ (IntKind.u64.wrap (x8)) then (if (Go.bits .and .i64 (shr .i64 x6 (IntKind.u64.wrap (x8))) 1) = 1 then ((zx.f k x8 x107000 x107001).bind fun bt107=>(zl.l1 k x6 (wrap64 (x8 + 1)) x102000 x102001 x103000 x103001 x105000 x105001 bt107.1 bt107.2)) else (zl.l1 k x6 (wrap64 (x8 + 1)) x102000 x102001 x103000 x103001 x105000 x105001 x107000 x107001)) else (none)) else ((z1f.f x105000 x105001 x107000 x107001).bind fun bt109=>(zl.l0 k (wrap64 (x6 + 1)) x102000 x102001 x103000 x103001 bt109.1 bt109.2))
end
def zl.f (k : Nat) (a0_0 : Int) (a0_1 : Int) (a1_0 : Int) (a1_1 : Int) : Option (Int × Int):=zl.l0 k 0 a0_0 a0_1 a1_0 a1_1 0 0
theorem zl.zY : ∀ k,(∀ y0 y1 y2 y3 y4 y5 y6,LeO (zl.l0 k y0 y1 y2 y3 y4 y5 y6) (zl.l0 (k + 1) y0 y1 y2 y3 y4 y5 y6)) ∧ (∀ y0 y1 y2 y3 y4 y5 y6 y7 y8 y9,LeO (zl.l1 k y0 y1 y2 y3 y4 y5 y6 y7 y8 y9) (zl.l1 (k + 1) y0 y1 y2 y3 y4 y5 y6 y7 y8 y9))
 | 0=>⟨fun _ _ _ _ _ _ _ r h=>by simp [zl.l0] at h,fun _ _ _ _ _ _ _ _ _ _ r h=>by simp [zl.l1] at h⟩
 | k + 1=>by
  obtain ⟨ih0,ih1⟩:=zl.zY k
  refine ⟨?_,?_⟩
  · intro y0 y1 y2 y3 y4 y5 y6
    unfold zl.l0
    repeat' first
    | (with_reducible exact ih0 _ _ _ _ _ _ _)
    | (with_reducible exact ih1 _ _ _ _ _ _ _ _ _ _)
    | (with_reducible exact zv.mono _ _ _ _)
    | (with_reducible exact zx.mono _ _ _ _)
    | (with_reducible exact LeO.refl _)
    | (with_reducible exact LeO.none _)
    | (with_reducible refine LeO.ite ?_ ?_)
    | (with_reducible refine LeO.bind ?_ (fun _=>?_))
    | exact ih0 _ _ _ _ _ _ _
    | exact ih1 _ _ _ _ _ _ _ _ _ _
    | exact zv.mono _ _ _ _
    | exact zx.mono _ _ _ _
    | exact LeO.none _
    | refine LeO.ite ?_ ?_
    | refine LeO.bind ?_ (fun _=>?_)
  · intro y0 y1 y2 y3 y4 y5 y6 y7 y8 y9
    unfold zl.l1
    repeat' first
    | (with_reducible exact ih0 _ _ _ _ _ _ _)
    | (with_reducible exact ih1 _ _ _ _ _ _ _ _ _ _)
    | (with_reducible exact zv.mono _ _ _ _)
    | (with_reducible exact zx.mono _ _ _ _)
    | (with_reducible exact LeO.refl _)
    | (with_reducible exact LeO.none _)
    | (with_reducible refine LeO.ite ?_ ?_)
    | (with_reducible refine LeO.bind ?_ (fun _=>?_))
    | exact ih0 _ _ _ _ _ _ _
    | exact ih1 _ _ _ _ _ _ _ _ _ _
    | exact zv.mono _ _ _ _
    | exact zx.mono _ _ _ _
    | exact LeO.none _
    | refine LeO.ite ?_ ?_
    | refine LeO.bind ?_ (fun _=>?_)
theorem zl.mono : ∀ a0 a1 a2 a3 k,LeO (zl.f k a0 a1 a2 a3) (zl.f (k + 1) a0 a1 a2 a3):=by
 intro a0 a1 a2 a3 k
 obtain ⟨ih0,ih1⟩:=zl.zY k
 unfold zl.f
 repeat' first
  | (with_reducible exact ih0 _ _ _ _ _ _ _)
  | (with_reducible exact ih1 _ _ _ _ _ _ _ _ _ _)
  | (with_reducible exact zv.mono _ _ _ _)
  | (with_reducible exact zx.mono _ _ _ _)
  | (with_reducible exact LeO.refl _)
  | (with_reducible exact LeO.none _)
  | (with_reducible refine LeO.ite ?_ ?_)
  | (with_reducible refine LeO.bind ?_ (fun _=>?_))
  | exact ih0 _ _ _ _ _ _ _
  | exact ih1 _ _ _ _ _ _ _ _ _ _
  | exact zv.mono _ _ _ _
  | exact zx.mono _ _ _ _
  | exact LeO.none _
  | refine LeO.ite ?_ ?_
  | refine LeO.bind ?_ (fun _=>?_)
set_option maxHeartbeats 8000000 in
set_option maxRecDepth 100000 in
theorem zl.calls (k : Nat) (a0_0 : Int) (a0_1 : Int) (a1_0 : Int) (a1_1 : Int) (r1 : Int) (r2 : Int) (w : World) (h : zl.f k a0_0 a0_1 a1_0 a1_1 = some (r1,r2)) :
 Calls Try.prog 64 #[.agg #[.int .u64 a0_0,.int .u64 a0_1],.agg #[.int .u64 a1_0,.int .u64 a1_1]] w fun e w'=>e = .returned (.agg #[.int .u64 r1,.int .u64 r2]) ∧ Below w.heap.size w w':=by
 have hu38:=Try.underlying38
 have HB:=z1.mk (Below.refl w.heap.size w)
 have H : (zl.l0 k 0 a0_0 a0_1 a1_0 a1_1 0 0) = some (r1,r2):=h
 clear h
 have H':=z1.mk H
 clear H
 go_enter Try.func64,Try.ntmps64
 go_wp2_with (first|((with_reducible refine zE (N:=2) rfl ?_);refine zC ?hg (N:=2) ?hd (cs:=#[.int .u64 a0_0,.int .u64 a0_1]) (t:=38) ?hr ?_;(case hd=>rfl);(case hg=>rfl);(case hr=>first|(go_simp;done)|(go_simp;rfl));intro gb101 hg w3 hbox hb;have n0_:=z1.mk (ze zz47 hb);have n1_:=z1.mk (hbox);have n2_:=z1.mk ((by rw [hg];exact (zf zz47) : w.heap.size ≤ gb101));have n3_:=z1.mk ((by rw [hg];exact (zf zz47) : w.heap.size ≤ gb101));clear HB;have HB:=n0_;have BK101:=n1_;have GW101:=n2_;have GE101:=n3_;clear n0_ n1_ n2_ n3_;clear hb hbox hg)|((with_reducible refine zE (N:=3) rfl ?_);refine zC ?hg (N:=3) ?hd (cs:=#[.int .u64 a1_0,.int .u64 a1_1]) (t:=38) ?hr ?_;(case hd=>rfl);(case hg=>rfl);(case hr=>first|(go_simp;done)|(go_simp;rfl));intro gb102 hg w4 hbox hb;have n0_:=z1.mk (z9 (g:=gb101) (o:=.cells #[.int .u64 a0_0,.int .u64 a0_1] 38 (0,0)) zz49 hb);have n1_:=z1.mk (ze zz41 hb);have n2_:=z1.mk (hbox);have n3_:=z1.mk ((by rw [hg];exact (zf zz41) : w.heap.size ≤ gb102));have n4_:=z1.mk ((by rw [hg];exact (zf zz41) : w.heap.size ≤ gb102));have n5_:=z1.mk ((by rw [hg];exact Nat.ne_of_lt (zw (g:=gb101) (o:=.cells #[.int .u64 a0_0,.int .u64 a0_1] 38 (0,0)) zz49) : gb101 ≠ gb102));have n6_:=z1.mk ((by rw [hg];exact Nat.ne_of_gt (zw (g:=gb101) (o:=.cells #[.int .u64 a0_0,.int .u64 a0_1] 38 (0,0)) zz49) : gb102 ≠ gb101));clear BK101;clear HB;have BK101:=n0_;have HB:=n1_;have BK102:=n2_;have GW102:=n3_;have GE102:=n4_;have NB101_102:=n5_;have NB102_101:=n6_;clear n0_ n1_ n2_ n3_ n4_ n5_ n6_;clear hb hbox hg)|((with_reducible refine zE (N:=4) rfl ?_);refine zC ?hg (N:=4) ?hd (cs:=#[.int .u64 0,.int .u64 0]) (t:=38) ?hr ?_;(case hd=>rfl);(case hg=>rfl);(case hr=>first|(go_simp;done)|(go_simp;rfl));intro gb103 hg w5 hbox hb;have n0_:=z1.mk (z9 (g:=gb101) (o:=.cells #[.int .u64 a0_0,.int .u64 a0_1] 38 (0,0)) zz49 hb);have n1_:=z1.mk (z9 (g:=gb102) (o:=.cells #[.int .u64 a1_0,.int .u64 a1_1] 38 (0,0)) zz50 hb);have n2_:=z1.mk (ze zz36 hb);have n3_:=z1.mk (hbox);have n4_:=z1.mk ((by rw [hg];exact (zf zz36) : w.heap.size ≤ gb103));have n5_:=z1.mk ((by rw [hg];exact (zf zz36) : w.heap.size ≤ gb103));have n6_:=z1.mk ((by rw [hg];exact Nat.ne_of_lt (zw (g:=gb101) (o:=.cells #[.int .u64 a0_0,.int .u64 a0_1] 38 (0,0)) zz49) : gb101 ≠ gb103));have n7_:=z1.mk ((by rw [hg];exact Nat.ne_of_gt (zw (g:=gb101) (o:=.cells #[.int .u64 a0_0,.int .u64 a0_1] 38 (0,0)) zz49) : gb103 ≠ gb101));have n8_:=z1.mk ((by rw [hg];exact Nat.ne_of_lt (zw (g:=gb102) (o:=.cells #[.int .u64 a1_0,.int .u64 a1_1] 38 (0,0)) zz50) : gb102 ≠ gb103));have n9_:=z1.mk ((by rw [hg];exact Nat.ne_of_gt (zw (g:=gb102) (o:=.cells #[.int .u64 a1_0,.int .u64 a1_1] 38 (0,0)) zz50) : gb103 ≠ gb102));clear BK101;clear BK102;clear HB;have BK101:=n0_;have BK102:=n1_;have HB:=n2_;have BK103:=n3_;have GW103:=n4_;have GE103:=n5_;have NB101_103:=n6_;have NB103_101:=n7_;have NB102_103:=n8_;have NB103_102:=n9_;clear n0_ n1_ n2_ n3_ n4_ n5_ n6_ n7_ n8_ n9_;clear hb hbox hg)|((with_reducible refine zE (N:=5) rfl ?_);refine zC ?hg (N:=5) ?hd (cs:=#[.int .u64 0,.int .u64 0]) (t:=38) ?hr ?_;(case hd=>rfl);(case hg=>rfl);(case hr=>first|(go_simp;done)|(go_simp;rfl));intro gb104 hg w6 hbox hb;have n0_:=z1.mk (z9 (g:=gb101) (o:=.cells #[.int .u64 a0_0,.int .u64 a0_1] 38 (0,0)) zz49 hb);have n1_:=z1.mk (z9 (g:=gb102) (o:=.cells #[.int .u64 a1_0,.int .u64 a1_1] 38 (0,0)) zz50 hb);have n2_:=z1.mk (z9 (g:=gb103) (o:=.cells #[.int .u64 0,.int .u64 0] 38 (0,0)) zz54 hb);have n3_:=z1.mk (ze zz32 hb);have n4_:=z1.mk (hbox);have n5_:=z1.mk ((by rw [hg];exact (zf zz32) : w.heap.size ≤ gb104));have n6_:=z1.mk ((by rw [hg];exact (zf zz32) : w.heap.size ≤ gb104));have n7_:=z1.mk ((by rw [hg];exact Nat.ne_of_lt (zw (g:=gb101) (o:=.cells #[.int .u64 a0_0,.int .u64 a0_1] 38 (0,0)) zz49) : gb101 ≠ gb104));have n8_:=z1.mk ((by rw [hg];exact Nat.ne_of_gt (zw (g:=gb101) (o:=.cells #[.int .u64 a0_0,.int .u64 a0_1] 38 (0,0)) zz49) : gb104 ≠ gb101));have n9_:=z1.mk ((by rw [hg];exact Nat.ne_of_lt (zw (g:=gb102) (o:=.cells #[.int .u64 a1_0,.int .u64 a1_1] 38 (0,0)) zz50) : gb102 ≠ gb104));have n10_:=z1.mk ((by rw [hg];exact Nat.ne_of_gt (zw (g:=gb102) (o:=.cells #[.int .u64 a1_0,.int .u64 a1_1] 38 (0,0)) zz50) : gb104 ≠ gb102));have n11_:=z1.mk ((by rw [hg];exact Nat.ne_of_lt (zw (g:=gb103) (o:=.cells #[.int .u64 0,.int .u64 0] 38 (0,0)) zz54) : gb103 ≠ gb104));have n12_:=z1.mk ((by rw [hg];exact Nat.ne_of_gt (zw (g:=gb103) (o:=.cells #[.int .u64 0,.int .u64 0] 38 (0,0)) zz54) : gb104 ≠ gb103));clear BK101;clear BK102;clear BK103;clear HB;have BK101:=n0_;have BK102:=n1_;have BK103:=n2_;have HB:=n3_;have BK104:=n4_;have GW104:=n5_;have GE104:=n6_;have NB101_104:=n7_;have NB104_101:=n8_;have NB102_104:=n9_;have NB104_102:=n10_;have NB103_104:=n11_;have NB104_103:=n12_;clear n0_ n1_ n2_ n3_ n4_ n5_ n6_ n7_ n8_ n9_ n10_ n11_ n12_;clear hb hbox hg))
 go_loopg [6] k (fun kq v6 w'=>∃ (x6_1 : Int) (x105000_1 : Int) (x105001_1 : Int),v6 = .int .i64 x6_1 ∧ z1 (zl.l0 kq x6_1 a0_0 a0_1 a1_0 a1_1 x105000_1 x105001_1 = some (r1,r2)) ∧ z1 (kq ≤ k) ∧ z1 (w'.heap[gb101]? = some (.cells #[.int .u64 a0_0,.int .u64 a0_1] 38 (0,0))) ∧ z1 (w'.heap[gb102]? = some (.cells #[.int .u64 a1_0,.int .u64 a1_1] 38 (0,0))) ∧ z1 (w'.heap[gb103]? = some (.cells #[.int .u64 0,.int .u64 0] 38 (0,0))) ∧ z1 (w'.heap[gb104]? = some (.cells #[.int .u64 x105000_1,.int .u64 x105001_1] 38 (0,0))) ∧ z1 (Below w.heap.size w w'))
 case atStart=>exact ⟨(0),(0),(0),zz82,H',⟨Nat.le_refl _⟩,⟨by (with_reducible repeat (first|refine z8 ?_ _|refine zb ?_|refine z7 ?_ _));exact BK101.out⟩,⟨by (with_reducible repeat (first|refine z8 ?_ _|refine zb ?_|refine z7 ?_ _));exact BK102.out⟩,⟨by (with_reducible repeat (first|refine z8 ?_ _|refine zb ?_|refine z7 ?_ _));exact BK103.out⟩,⟨by (with_reducible repeat (first|refine z8 ?_ _|refine zb ?_|refine z7 ?_ _));exact BK104.out⟩,⟨by repeat (first|(with_reducible first|exact HB.out|apply zd|apply z3|apply zc|refine za ?_ GE101.out|refine za ?_ GE102.out|refine za ?_ GE103.out|refine za ?_ GE104.out)|exact HB.out)⟩⟩
 case round =>
  clear H'
  (try clear p2);(try clear c6)
  obtain ⟨x6_1,x105000_1,x105001_1,rfl,HA,HK1,BK101,BK102,BK103,BK104,HB⟩:=hrel
  cases gk with
  | zero=>exact absurd HA.out (by simp [zl.l0])
  | succ k1 =>
   have H:=HA.out
   clear HA
   simp only [zl.l0] at H
   by_cases c7 : x6_1 < 128
   rotate_left
   · rw [if_neg c7] at H
     have c7b0 : decide (x6_1 < 128) = false:=decide_eq_false c7
     clear c7
     simp only [Option.some.injEq,Prod.mk.injEq] at H
     obtain ⟨rfl,rfl⟩:=H
     have hnb54:=NB104_101.out
     have hnc54:=NB101_104.out
     have hnb55:=NB104_102.out
     have hnc55:=NB102_104.out
     have hnb56:=NB104_103.out
     have hnc56:=NB103_104.out
     have hcz57_0 : wr.cell? ⟨gb104,0,none⟩ = some (.int .u64 x105000_1):=(z5 BK104.out 0).trans rfl
     have hcz57_1 : wr.cell? ⟨gb104,1,none⟩ = some (.int .u64 x105001_1):=(z5 BK104.out 1).trans rfl
     have hfz57_0:=z4 BK104.out 0
     have hfz57_1:=z4 BK104.out 1
     have hnb58:=NB103_101.out
     have hnc58:=NB101_103.out
     have hnb59:=NB103_102.out
     have hnc59:=NB102_103.out
     have hcz60_0 : wr.cell? ⟨gb103,0,none⟩ = some (.int .u64 0):=(z5 BK103.out 0).trans rfl
     have hcz60_1 : wr.cell? ⟨gb103,1,none⟩ = some (.int .u64 0):=(z5 BK103.out 1).trans rfl
     have hfz60_0:=z4 BK103.out 0
     have hfz60_1:=z4 BK103.out 1
     go_wp2
     refine bodyPost_ret (results_cell_row rfl _ _ gb103 38 #[.int .u64 x105000_1,.int .u64 x105001_1] (0,0) _ rfl (by (with_reducible repeat (first|refine z8 ?_ _|refine zb ?_|refine z7 ?_ _));refine zT (cs:=#[.int .u64 x105000_1,.int .u64 0]) ?_ 1 _ rfl;(with_reducible repeat (first|refine z8 ?_ _|refine zb ?_|refine z7 ?_ _));refine zT (cs:=#[.int .u64 0,.int .u64 0]) ?_ 0 _ rfl;(with_reducible repeat (first|refine z8 ?_ _|refine zb ?_|refine z7 ?_ _));exact BK103.out) Try.underlying38 rfl zz84) rfl ?_
     exact ⟨by first|rfl|(simp [zi,zj] <;> rfl)|(simp [*,zi,zj] <;> rfl),by repeat (first|(with_reducible first|exact HB.out|apply zd|apply z3|apply zc|refine za ?_ GE101.out|refine za ?_ GE102.out|refine za ?_ GE103.out|refine za ?_ GE104.out)|exact HB.out)⟩
   rw [if_pos c7] at H
   have c7b0 : decide (x6_1 < 128) = true:=decide_eq_true c7
   clear c7
   replace H:=Option.bind_eq_some_iff.mp H
   obtain ⟨t105,A80,H⟩:=H
   replace H : (if t105 = true then (zl.l1 k1 x6_1 0 a0_0 a0_1 a1_0 a1_1 x105000_1 x105001_1 a0_0 a0_1) else (zl.l0 k1 (wrap64 (x6_1 + 1)) a0_0 a0_1 a1_0 a1_1 x105000_1 x105001_1)) = some (r1,r2):=H
   have A8:=z1.mk A80
   clear A80
   by_cases c9 : t105 = true
   rotate_left
   · replace c9:=Bool.eq_false_iff.mpr c9
     subst c9
     have H1 : (zl.l0 k1 (wrap64 (x6_1 + 1)) a0_0 a0_1 a1_0 a1_1 x105000_1 x105001_1) = some (r1,r2):=by rw [if_neg (show ¬ (false = true) by decide)] at H;exact H
     clear H
     have H:=H1
     clear H1
     have H':=z1.mk H
     clear H
     have hnb49:=NB102_101.out
     have hnc49:=NB101_102.out
     have hnb50:=NB102_103.out
     have hnc50:=NB103_102.out
     have hnb51:=NB102_104.out
     have hnc51:=NB104_102.out
     have hcz52_0 : wr.cell? ⟨gb102,0,none⟩ = some (.int .u64 a1_0):=(z5 BK102.out 0).trans rfl
     have hcz52_1 : wr.cell? ⟨gb102,1,none⟩ = some (.int .u64 a1_1):=(z5 BK102.out 1).trans rfl
     have hfz52_0:=z4 BK102.out 0
     have hfz52_1:=z4 BK102.out 1
     go_wp2_with (first|((with_reducible refine zo (f:=46) rfl ?_);refine goesL_ (some 15) rfl rfl Try.func46 zz84 rfl #[.agg #[.int .u64 a1_0,.int .u64 a1_1],.int .i64 x6_1] rfl zz45 ?_;(with_reducible refine (zv.calls k1 a1_0 a1_1 x6_1 false _ A8.out).mono ?_);rintro e w53 ⟨rfl,hb⟩;refine ⟨_,rfl,?_⟩;have n0_:=z1.mk (z9 (g:=gb101) (o:=.cells #[.int .u64 a0_0,.int .u64 a0_1] 38 (0,0)) zz49 hb);have n1_:=z1.mk (z9 (g:=gb102) (o:=.cells #[.int .u64 a1_0,.int .u64 a1_1] 38 (0,0)) zz50 hb);have n2_:=z1.mk (z9 (g:=gb103) (o:=.cells #[.int .u64 0,.int .u64 0] 38 (0,0)) zz54 hb);have n3_:=z1.mk (z9 (g:=gb104) (o:=.cells #[.int .u64 x105000_1,.int .u64 x105001_1] 38 (0,0)) zz52 hb);have n4_:=z1.mk (ze zz29 hb);clear BK101;clear BK102;clear BK103;clear BK104;clear HB;have BK101:=n0_;have BK102:=n1_;have BK103:=n2_;have BK104:=n3_;have HB:=n4_;clear n0_ n1_ n2_ n3_ n4_;(try clear hb);(try clear hb2);(try clear hk);(try clear hi)))
     go_roundg k1
     case measure=>have:=HK1.out;omega
     case rel=>exact ⟨(wrap64 (x6_1 + 1)),(x105000_1),(x105001_1),zz82,H',⟨by have:=HK1.out;omega⟩,⟨by (with_reducible repeat (first|refine z8 ?_ _|refine zb ?_|refine z7 ?_ _));exact BK101.out⟩,⟨by (with_reducible repeat (first|refine z8 ?_ _|refine zb ?_|refine z7 ?_ _));exact BK102.out⟩,⟨by (with_reducible repeat (first|refine z8 ?_ _|refine zb ?_|refine z7 ?_ _));exact BK103.out⟩,⟨by (with_reducible repeat (first|refine z8 ?_ _|refine zb ?_|refine z7 ?_ _));exact BK104.out⟩,⟨by repeat (first|(with_reducible first|exact HB.out|apply zd|apply z3|apply zc|refine za ?_ GE101.out|refine za ?_ GE102.out|refine za ?_ GE103.out|refine za ?_ GE104.out)|exact HB.out)⟩⟩
   subst c9
   have H1 : (zl.l1 k1 x6_1 0 a0_0 a0_1 a1_0 a1_1 x105000_1 x105001_1 a0_0 a0_1) = some (r1,r2):=by rw [if_pos rfl] at H;exact H
   clear H
   have H:=H1
   clear H1
   have H':=z1.mk H
   clear H
   have hnb10:=NB102_101.out
   have hnc10:=NB101_102.out
   have hnb11:=NB102_103.out
   have hnc11:=NB103_102.out
   have hnb12:=NB102_104.out
   have hnc12:=NB104_102.out
   have hcz13_0 : wr.cell? ⟨gb102,0,none⟩ = some (.int .u64 a1_0):=(z5 BK102.out 0).trans rfl
   have hcz13_1 : wr.cell? ⟨gb102,1,none⟩ = some (.int .u64 a1_1):=(z5 BK102.out 1).trans rfl
   have hfz13_0:=z4 BK102.out 0
   have hfz13_1:=z4 BK102.out 1
   go_wp2_with (first|((with_reducible refine zo (f:=46) rfl ?_);refine goesL_ (some 15) rfl rfl Try.func46 zz84 rfl #[.agg #[.int .u64 a1_0,.int .u64 a1_1],.int .i64 x6_1] rfl zz45 ?_;(with_reducible refine (zv.calls k1 a1_0 a1_1 x6_1 true _ A8.out).mono ?_);rintro e w14 ⟨rfl,hb⟩;refine ⟨_,rfl,?_⟩;have n0_:=z1.mk (z9 (g:=gb101) (o:=.cells #[.int .u64 a0_0,.int .u64 a0_1] 38 (0,0)) zz49 hb);have n1_:=z1.mk (z9 (g:=gb102) (o:=.cells #[.int .u64 a1_0,.int .u64 a1_1] 38 (0,0)) zz50 hb);have n2_:=z1.mk (z9 (g:=gb103) (o:=.cells #[.int .u64 0,.int .u64 0] 38 (0,0)) zz54 hb);have n3_:=z1.mk (z9 (g:=gb104) (o:=.cells #[.int .u64 x105000_1,.int .u64 x105001_1] 38 (0,0)) zz52 hb);have n4_:=z1.mk (ze zz29 hb);clear BK101;clear BK102;clear BK103;clear BK104;clear HB;have BK101:=n0_;have BK102:=n1_;have BK103:=n2_;have BK104:=n3_;have HB:=n4_;clear n0_ n1_ n2_ n3_ n4_;(try clear hb);(try clear hb2);(try clear hk);(try clear hi);have hnb15:=NB101_103.out;have hnc15:=NB103_101.out;have hnb16:=NB101_104.out;have hnc16:=NB104_101.out;have hcz17_0 : w14.cell? ⟨gb101,0,none⟩ = some (.int .u64 a0_0):=(z5 BK101.out 0).trans rfl;have hcz17_1 : w14.cell? ⟨gb101,1,none⟩ = some (.int .u64 a0_1):=(z5 BK101.out 1).trans rfl;have hfz17_0:=z4 BK101.out 0;have hfz17_1:=z4 BK101.out 1)|((with_reducible refine zE (N:=7) rfl ?_);refine zC ?hg (N:=7) ?hd (cs:=#[.int .u64 0,.int .u64 0]) (t:=38) ?hr ?_;(case hd=>rfl);(case hg=>rfl);(case hr=>first|(go_simp;done)|(go_simp;rfl));intro gb106 hg w18 hbox hb;have n0_:=z1.mk (z9 (g:=gb101) (o:=.cells #[.int .u64 a0_0,.int .u64 a0_1] 38 (0,0)) zz49 hb);have n1_:=z1.mk (z9 (g:=gb102) (o:=.cells #[.int .u64 a1_0,.int .u64 a1_1] 38 (0,0)) zz50 hb);have n2_:=z1.mk (z9 (g:=gb103) (o:=.cells #[.int .u64 0,.int .u64 0] 38 (0,0)) zz54 hb);have n3_:=z1.mk (z9 (g:=gb104) (o:=.cells #[.int .u64 x105000_1,.int .u64 x105001_1] 38 (0,0)) zz52 hb);have n4_:=z1.mk (ze zz29 hb);have n5_:=z1.mk (hbox);have n6_:=z1.mk ((by rw [hg];exact (zf zz29) : w.heap.size ≤ gb106));have n7_:=z1.mk ((by rw [hg];exact (zf zz29) : w.heap.size ≤ gb106));have n8_:=z1.mk ((by rw [hg];exact Nat.ne_of_lt (zw (g:=gb101) (o:=.cells #[.int .u64 a0_0,.int .u64 a0_1] 38 (0,0)) zz49) : gb101 ≠ gb106));have n9_:=z1.mk ((by rw [hg];exact Nat.ne_of_gt (zw (g:=gb101) (o:=.cells #[.int .u64 a0_0,.int .u64 a0_1] 38 (0,0)) zz49) : gb106 ≠ gb101));have n10_:=z1.mk ((by rw [hg];exact Nat.ne_of_lt (zw (g:=gb102) (o:=.cells #[.int .u64 a1_0,.int .u64 a1_1] 38 (0,0)) zz50) : gb102 ≠ gb106));have n11_:=z1.mk ((by rw [hg];exact Nat.ne_of_gt (zw (g:=gb102) (o:=.cells #[.int .u64 a1_0,.int .u64 a1_1] 38 (0,0)) zz50) : gb106 ≠ gb102));have n12_:=z1.mk ((by rw [hg];exact Nat.ne_of_lt (zw (g:=gb103) (o:=.cells #[.int .u64 0,.int .u64 0] 38 (0,0)) zz54) : gb103 ≠ gb106));have n13_:=z1.mk ((by rw [hg];exact Nat.ne_of_gt (zw (g:=gb103) (o:=.cells #[.int .u64 0,.int .u64 0] 38 (0,0)) zz54) : gb106 ≠ gb103));have n14_:=z1.mk ((by rw [hg];exact Nat.ne_of_lt (zw (g:=gb104) (o:=.cells #[.int .u64 x105000_1,.int .u64 x105001_1] 38 (0,0)) zz52) : gb104 ≠ gb106));have n15_:=z1.mk ((by rw [hg];exact Nat.ne_of_gt (zw (g:=gb104) (o:=.cells #[.int .u64 x105000_1,.int .u64 x105001_1] 38 (0,0)) zz52) : gb106 ≠ gb104));clear BK101;clear BK102;clear BK103;clear BK104;clear HB;have BK101:=n0_;have BK102:=n1_;have BK103:=n2_;have BK104:=n3_;have HB:=n4_;have BK106:=n5_;have GW106:=n6_;have GE106:=n7_;have NB101_106:=n8_;have NB106_101:=n9_;have NB102_106:=n10_;have NB106_102:=n11_;have NB103_106:=n12_;have NB106_103:=n13_;have NB104_106:=n14_;have NB106_104:=n15_;clear n0_ n1_ n2_ n3_ n4_ n5_ n6_ n7_ n8_ n9_ n10_ n11_ n12_ n13_ n14_ n15_;clear hb hbox hg;have hnb19:=NB106_101.out;have hnc19:=NB101_106.out;have hnb20:=NB106_102.out;have hnc20:=NB102_106.out;have hnb21:=NB106_103.out;have hnc21:=NB103_106.out;have hnb22:=NB106_104.out;have hnc22:=NB104_106.out;have hcz23_0 : w18.cell? ⟨gb106,0,none⟩ = some (.int .u64 0):=(z5 BK106.out 0).trans rfl;have hcz23_1 : w18.cell? ⟨gb106,1,none⟩ = some (.int .u64 0):=(z5 BK106.out 1).trans rfl;have hfz23_0:=z4 BK106.out 0;have hfz23_1:=z4 BK106.out 1))
   go_loopg [8] k1 (fun kq v8 w'=>∃ (x8_2 : Int) (x107000_2 : Int) (x107001_2 : Int),v8 = .int .i64 x8_2 ∧ z1 (zl.l1 kq x6_1 x8_2 a0_0 a0_1 a1_0 a1_1 x105000_1 x105001_1 x107000_2 x107001_2 = some (r1,r2)) ∧ z1 (kq ≤ k1) ∧ z1 (w'.heap[gb101]? = some (.cells #[.int .u64 a0_0,.int .u64 a0_1] 38 (0,0))) ∧ z1 (w'.heap[gb102]? = some (.cells #[.int .u64 a1_0,.int .u64 a1_1] 38 (0,0))) ∧ z1 (w'.heap[gb103]? = some (.cells #[.int .u64 0,.int .u64 0] 38 (0,0))) ∧ z1 (w'.heap[gb104]? = some (.cells #[.int .u64 x105000_1,.int .u64 x105001_1] 38 (0,0))) ∧ z1 (w'.heap[gb106]? = some (.cells #[.int .u64 x107000_2,.int .u64 x107001_2] 38 (0,0))) ∧ z1 (Below w.heap.size w w'))
   case atStart=>exact ⟨(0),(a0_0),(a0_1),zz82,H',⟨Nat.le_refl _⟩,⟨by (with_reducible repeat (first|refine z8 ?_ _|refine zb ?_|refine z7 ?_ _));refine zP ?_ NB101_106.out _;(with_reducible repeat (first|refine z8 ?_ _|refine zb ?_|refine z7 ?_ _));refine zP ?_ NB101_106.out _;(with_reducible repeat (first|refine z8 ?_ _|refine zb ?_|refine z7 ?_ _));exact BK101.out⟩,⟨by (with_reducible repeat (first|refine z8 ?_ _|refine zb ?_|refine z7 ?_ _));refine zP ?_ NB102_106.out _;(with_reducible repeat (first|refine z8 ?_ _|refine zb ?_|refine z7 ?_ _));refine zP ?_ NB102_106.out _;(with_reducible repeat (first|refine z8 ?_ _|refine zb ?_|refine z7 ?_ _));exact BK102.out⟩,⟨by (with_reducible repeat (first|refine z8 ?_ _|refine zb ?_|refine z7 ?_ _));refine zP ?_ NB103_106.out _;(with_reducible repeat (first|refine z8 ?_ _|refine zb ?_|refine z7 ?_ _));refine zP ?_ NB103_106.out _;(with_reducible repeat (first|refine z8 ?_ _|refine zb ?_|refine z7 ?_ _));exact BK103.out⟩,⟨by (with_reducible repeat (first|refine z8 ?_ _|refine zb ?_|refine z7 ?_ _));refine zP ?_ NB104_106.out _;(with_reducible repeat (first|refine z8 ?_ _|refine zb ?_|refine z7 ?_ _));refine zP ?_ NB104_106.out _;(with_reducible repeat (first|refine z8 ?_ _|refine zb ?_|refine z7 ?_ _));exact BK104.out⟩,⟨by (with_reducible repeat (first|refine z8 ?_ _|refine zb ?_|refine z7 ?_ _));refine zT (cs:=#[.int .u64 a0_0,.int .u64 0]) ?_ 1 _ rfl;(with_reducible repeat (first|refine z8 ?_ _|refine zb ?_|refine z7 ?_ _));refine zT (cs:=#[.int .u64 0,.int .u64 0]) ?_ 0 _ rfl;(with_reducible repeat (first|refine z8 ?_ _|refine zb ?_|refine z7 ?_ _));exact BK106.out⟩,⟨by repeat (first|(with_reducible first|exact HB.out|apply zd|apply z3|apply zc|refine za ?_ GE101.out|refine za ?_ GE102.out|refine za ?_ GE103.out|refine za ?_ GE104.out|refine za ?_ GE106.out)|exact HB.out)⟩⟩
   case round =>
    clear H'
    (try clear c1);(try clear c2);(try clear p2);(try clear c4);(try clear c6);(try clear p6);(try clear c7);(try clear c7b0);(try clear c9);(try clear c10);(try clear c11);(try clear c12);(try clear c15);(try clear c16);(try clear c19);(try clear c20);(try clear c21);(try clear c22);(try clear hcz13_0);(try clear hcz13_1);(try clear hcz17_0);(try clear hcz17_1);(try clear hcz23_0);(try clear hcz23_1);(try clear hfz13_0);(try clear hfz13_1);(try clear hfz17_0);(try clear hfz17_1);(try clear hfz23_0);(try clear hfz23_1);(try clear p2)
    obtain ⟨x8_2,x107000_2,x107001_2,rfl,HA,HK2,BK101,BK102,BK103,BK104,BK106,HB⟩:=hrel
    cases gk with
    | zero=>exact absurd HA.out (by simp [zl.l1])
    | succ k2 =>
     have H:=HA.out
     clear HA
     simp only [zl.l1] at H
     by_cases c24 : x8_2 < 7
     rotate_left
     · rw [if_neg c24] at H
       have c24b0 : decide (x8_2 < 7) = false:=decide_eq_false c24
       clear c24
       replace H:=Option.bind_eq_some_iff.mp H
       obtain ⟨⟨t109,t110⟩,A370,H⟩:=H
       replace H : (zl.l0 k2 (wrap64 (x6_1 + 1)) a0_0 a0_1 a1_0 a1_1 t109 t110) = some (r1,r2):=H
       have A37:=z1.mk A370
       clear A370
       have H':=z1.mk H
       clear H
       have hnb38:=NB104_101.out
       have hnc38:=NB101_104.out
       have hnb39:=NB104_102.out
       have hnc39:=NB102_104.out
       have hnb40:=NB104_103.out
       have hnc40:=NB103_104.out
       have hnb41:=NB104_106.out
       have hnc41:=NB106_104.out
       have hcz42_0 : wr.cell? ⟨gb104,0,none⟩ = some (.int .u64 x105000_1):=(z5 BK104.out 0).trans rfl
       have hcz42_1 : wr.cell? ⟨gb104,1,none⟩ = some (.int .u64 x105001_1):=(z5 BK104.out 1).trans rfl
       have hfz42_0:=z4 BK104.out 0
       have hfz42_1:=z4 BK104.out 1
       have hnb43:=NB106_101.out
       have hnc43:=NB101_106.out
       have hnb44:=NB106_102.out
       have hnc44:=NB102_106.out
       have hnb45:=NB106_103.out
       have hnc45:=NB103_106.out
       have hcz46_0 : wr.cell? ⟨gb106,0,none⟩ = some (.int .u64 x107000_2):=(z5 BK106.out 0).trans rfl
       have hcz46_1 : wr.cell? ⟨gb106,1,none⟩ = some (.int .u64 x107001_2):=(z5 BK106.out 1).trans rfl
       have hfz46_0:=z4 BK106.out 0
       have hfz46_1:=z4 BK106.out 1
       go_wp2_with (first|((with_reducible refine zo (f:=47) rfl ?_);refine goesL_ (some 33) rfl rfl Try.func47 zz84 rfl #[.agg #[.int .u64 x105000_1,.int .u64 x105001_1],.agg #[.int .u64 x107000_2,.int .u64 x107001_2]] rfl zz45 ?_;(with_reducible refine (z1f.calls x105000_1 x105001_1 x107000_2 x107001_2 t109 t110 _ A37.out).mono ?_);rintro e w47 ⟨rfl,hb⟩;refine ⟨_,rfl,?_⟩;have n0_:=z1.mk (z9 (g:=gb101) (o:=.cells #[.int .u64 a0_0,.int .u64 a0_1] 38 (0,0)) zz49 hb);have n1_:=z1.mk (z9 (g:=gb102) (o:=.cells #[.int .u64 a1_0,.int .u64 a1_1] 38 (0,0)) zz50 hb);have n2_:=z1.mk (z9 (g:=gb103) (o:=.cells #[.int .u64 0,.int .u64 0] 38 (0,0)) zz54 hb);have n3_:=z1.mk (z9 (g:=gb104) (o:=.cells #[.int .u64 x105000_1,.int .u64 x105001_1] 38 (0,0)) zz52 hb);have n4_:=z1.mk (z9 (g:=gb106) (o:=.cells #[.int .u64 x107000_2,.int .u64 x107001_2] 38 (0,0)) zz51 hb);have n5_:=z1.mk (ze zz26 hb);clear BK101;clear BK102;clear BK103;clear BK104;clear BK106;clear HB;have BK101:=n0_;have BK102:=n1_;have BK103:=n2_;have BK104:=n3_;have BK106:=n4_;have HB:=n5_;clear n0_ n1_ n2_ n3_ n4_ n5_;(try clear hb);(try clear hb2);(try clear hk);(try clear hi);have hcz48_0 : w47.cell? ⟨gb104,0,none⟩ = some (.int .u64 x105000_1):=(z5 BK104.out 0).trans rfl;have hcz48_1 : w47.cell? ⟨gb104,1,none⟩ = some (.int .u64 x105001_1):=(z5 BK104.out 1).trans rfl;have hfz48_0:=z4 BK104.out 0;have hfz48_1:=z4 BK104.out 1))
       go_roundg k2
       case measure=>have:=HK1.out;have:=HK2.out;omega
       case rel=>exact ⟨(wrap64 (x6_1 + 1)),(t109),(t110),zz82,H',⟨by have:=HK1.out;have:=HK2.out;omega⟩,⟨by (with_reducible repeat (first|refine z8 ?_ _|refine zb ?_|refine z7 ?_ _));refine zP ?_ NB101_104.out _;(with_reducible repeat (first|refine z8 ?_ _|refine zb ?_|refine z7 ?_ _));refine zP ?_ NB101_104.out _;(with_reducible repeat (first|refine z8 ?_ _|refine zb ?_|refine z7 ?_ _));exact BK101.out⟩,⟨by (with_reducible repeat (first|refine z8 ?_ _|refine zb ?_|refine z7 ?_ _));refine zP ?_ NB102_104.out _;(with_reducible repeat (first|refine z8 ?_ _|refine zb ?_|refine z7 ?_ _));refine zP ?_ NB102_104.out _;(with_reducible repeat (first|refine z8 ?_ _|refine zb ?_|refine z7 ?_ _));exact BK102.out⟩,⟨by (with_reducible repeat (first|refine z8 ?_ _|refine zb ?_|refine z7 ?_ _));refine zP ?_ NB103_104.out _;(with_reducible repeat (first|refine z8 ?_ _|refine zb ?_|refine z7 ?_ _));refine zP ?_ NB103_104.out _;(with_reducible repeat (first|refine z8 ?_ _|refine zb ?_|refine z7 ?_ _));exact BK103.out⟩,⟨by (with_reducible repeat (first|refine z8 ?_ _|refine zb ?_|refine z7 ?_ _));refine zT (cs:=#[.int .u64 t109,.int .u64 x105001_1]) ?_ 1 _ rfl;(with_reducible repeat (first|refine z8 ?_ _|refine zb ?_|refine z7 ?_ _));refine zT (cs:=#[.int .u64 x105000_1,.int .u64 x105001_1]) ?_ 0 _ rfl;(with_reducible repeat (first|refine z8 ?_ _|refine zb ?_|refine z7 ?_ _));exact BK104.out⟩,⟨by repeat (first|(with_reducible first|exact HB.out|apply zd|apply z3|apply zc|refine za ?_ GE101.out|refine za ?_ GE102.out|refine za ?_ GE103.out|refine za ?_ GE104.out|refine za ?_ GE106.out)|exact HB.out)⟩⟩
     rw [if_pos c24] at H
     have c24b0 : decide (x8_2 < 7) = true:=decide_eq_true c24
     clear c24
     obtain ⟨ji25,hji25⟩ : ∃ j_ : Int,(IntKind.u64.wrap (x8_2)) = j_:=⟨_,rfl⟩
     replace H : (if 0 ≤ (ji25) then (if (Go.bits .and .i64 (shr .i64 x6_1 (ji25)) 1) = 1 then ((zx.f k2 x8_2 x107000_2 x107001_2).bind fun bt107=>(zl.l1 k2 x6_1 (wrap64 (x8_2 + 1)) a0_0 a0_1 a1_0 a1_1 x105000_1 x105001_1 bt107.1 bt107.2)) else (zl.l1 k2 x6_1 (wrap64 (x8_2 + 1)) a0_0 a0_1 a1_0 a1_1 x105000_1 x105001_1 x107000_2 x107001_2)) else (none)) = some (r1,r2):=by first|(rw [hji25] at H;exact H)|(simp only [hji25] at H ⊢;exact H)
     by_cases c26 : 0 ≤ (ji25)
     rotate_left
     · rw [if_neg c26] at H
       exact absurd H zz87
     rw [if_pos c26] at H
     have c26b0:=eq_true c26
     have c26b1 : decide (0 ≤ (ji25)) = true:=decide_eq_true c26
     clear c26
     obtain ⟨ji27,hji27⟩ : ∃ j_ : Int,(shr .i64 x6_1 (ji25)) = j_:=⟨_,rfl⟩
     replace H : (if (Go.bits .and .i64 (ji27) 1) = 1 then ((zx.f k2 x8_2 x107000_2 x107001_2).bind fun bt107=>(zl.l1 k2 x6_1 (wrap64 (x8_2 + 1)) a0_0 a0_1 a1_0 a1_1 x105000_1 x105001_1 bt107.1 bt107.2)) else (zl.l1 k2 x6_1 (wrap64 (x8_2 + 1)) a0_0 a0_1 a1_0 a1_1 x105000_1 x105001_1 x107000_2 x107001_2)) = some (r1,r2):=by first|(rw [hji27] at H;exact H)|(simp only [hji27] at H ⊢;exact H)
     have hji27_ : (x6_1 / 2 ^ min (ji25).toNat 64) = ji27:=hji27
     have hji27z : (ji25) ≤ 64 → (x6_1 / 2 ^ (ji25).toNat) = ji27:=z2m hji27
     by_cases c28 : (Go.bits .and .i64 (ji27) 1) = 1
     rotate_left
     · rw [if_neg c28] at H
       have c28b0 : ((Go.bits .and .i64 (ji27) 1) == 1) = false:=beq_eq_false_iff_ne.mpr c28
       have c28b1 : ((Go.bits .and .i64 (ji27) 1) != 1) = true:=bne_iff_ne.mpr c28
       have H':=z1.mk H
       clear H
       go_wp2
       go_roundg k2
       case measure=>have:=HK1.out;have:=HK2.out;omega
       case rel=>exact ⟨(wrap64 (x8_2 + 1)),(x107000_2),(x107001_2),zz82,H',⟨by have:=HK1.out;have:=HK2.out;omega⟩,⟨by (with_reducible repeat (first|refine z8 ?_ _|refine zb ?_|refine z7 ?_ _));exact BK101.out⟩,⟨by (with_reducible repeat (first|refine z8 ?_ _|refine zb ?_|refine z7 ?_ _));exact BK102.out⟩,⟨by (with_reducible repeat (first|refine z8 ?_ _|refine zb ?_|refine z7 ?_ _));exact BK103.out⟩,⟨by (with_reducible repeat (first|refine z8 ?_ _|refine zb ?_|refine z7 ?_ _));exact BK104.out⟩,⟨by (with_reducible repeat (first|refine z8 ?_ _|refine zb ?_|refine z7 ?_ _));exact BK106.out⟩,⟨by repeat (first|(with_reducible first|exact HB.out|apply zd|apply z3|apply zc|refine za ?_ GE101.out|refine za ?_ GE102.out|refine za ?_ GE103.out|refine za ?_ GE104.out|refine za ?_ GE106.out)|exact HB.out)⟩⟩
     rw [if_pos c28] at H
     have c28b0 : ((Go.bits .and .i64 (ji27) 1) == 1) = true:=beq_iff_eq.mpr c28
     have c28b1 : ((Go.bits .and .i64 (ji27) 1) != 1) = false:=bne_eq_false_iff_eq.mpr c28
     clear c28
     replace H:=Option.bind_eq_some_iff.mp H
     obtain ⟨⟨t107,t108⟩,A290,H⟩:=H
     replace H : (zl.l1 k2 x6_1 (wrap64 (x8_2 + 1)) a0_0 a0_1 a1_0 a1_1 x105000_1 x105001_1 t107 t108) = some (r1,r2):=H
     have A29:=z1.mk A290
     clear A290
     have H':=z1.mk H
     clear H
     have hnb30:=NB106_101.out
     have hnc30:=NB101_106.out
     have hnb31:=NB106_102.out
     have hnc31:=NB102_106.out
     have hnb32:=NB106_103.out
     have hnc32:=NB103_106.out
     have hnb33:=NB106_104.out
     have hnc33:=NB104_106.out
     have hcz34_0 : wr.cell? ⟨gb106,0,none⟩ = some (.int .u64 x107000_2):=(z5 BK106.out 0).trans rfl
     have hcz34_1 : wr.cell? ⟨gb106,1,none⟩ = some (.int .u64 x107001_2):=(z5 BK106.out 1).trans rfl
     have hfz34_0:=z4 BK106.out 0
     have hfz34_1:=z4 BK106.out 1
     go_wp2_with (first|((with_reducible refine zo (f:=79) rfl ?_);refine goesL_ (some 30) rfl rfl Try.func79 zz84 rfl #[.int .i64 x8_2,.agg #[.int .u64 x107000_2,.int .u64 x107001_2]] rfl zz45 ?_;(with_reducible refine (zx.calls k2 x8_2 x107000_2 x107001_2 t107 t108 _ A29.out).mono ?_);rintro e w35 ⟨rfl,hb⟩;refine ⟨_,rfl,?_⟩;have n0_:=z1.mk (z9 (g:=gb101) (o:=.cells #[.int .u64 a0_0,.int .u64 a0_1] 38 (0,0)) zz49 hb);have n1_:=z1.mk (z9 (g:=gb102) (o:=.cells #[.int .u64 a1_0,.int .u64 a1_1] 38 (0,0)) zz50 hb);have n2_:=z1.mk (z9 (g:=gb103) (o:=.cells #[.int .u64 0,.int .u64 0] 38 (0,0)) zz54 hb);have n3_:=z1.mk (z9 (g:=gb104) (o:=.cells #[.int .u64 x105000_1,.int .u64 x105001_1] 38 (0,0)) zz52 hb);have n4_:=z1.mk (z9 (g:=gb106) (o:=.cells #[.int .u64 x107000_2,.int .u64 x107001_2] 38 (0,0)) zz51 hb);have n5_:=z1.mk (ze zz26 hb);clear BK101;clear BK102;clear BK103;clear BK104;clear BK106;clear HB;have BK101:=n0_;have BK102:=n1_;have BK103:=n2_;have BK104:=n3_;have BK106:=n4_;have HB:=n5_;clear n0_ n1_ n2_ n3_ n4_ n5_;(try clear hb);(try clear hb2);(try clear hk);(try clear hi);have hcz36_0 : w35.cell? ⟨gb106,0,none⟩ = some (.int .u64 x107000_2):=(z5 BK106.out 0).trans rfl;have hcz36_1 : w35.cell? ⟨gb106,1,none⟩ = some (.int .u64 x107001_2):=(z5 BK106.out 1).trans rfl;have hfz36_0:=z4 BK106.out 0;have hfz36_1:=z4 BK106.out 1))
     go_roundg k2
     case measure=>have:=HK1.out;have:=HK2.out;omega
     case rel=>exact ⟨(wrap64 (x8_2 + 1)),(t107),(t108),zz82,H',⟨by have:=HK1.out;have:=HK2.out;omega⟩,⟨by (with_reducible repeat (first|refine z8 ?_ _|refine zb ?_|refine z7 ?_ _));refine zP ?_ NB101_106.out _;(with_reducible repeat (first|refine z8 ?_ _|refine zb ?_|refine z7 ?_ _));refine zP ?_ NB101_106.out _;(with_reducible repeat (first|refine z8 ?_ _|refine zb ?_|refine z7 ?_ _));exact BK101.out⟩,⟨by (with_reducible repeat (first|refine z8 ?_ _|refine zb ?_|refine z7 ?_ _));refine zP ?_ NB102_106.out _;(with_reducible repeat (first|refine z8 ?_ _|refine zb ?_|refine z7 ?_ _));refine zP ?_ NB102_106.out _;(with_reducible repeat (first|refine z8 ?_ _|refine zb ?_|refine z7 ?_ _));exact BK102.out⟩,⟨by (with_reducible repeat (first|refine z8 ?_ _|refine zb ?_|refine z7 ?_ _));refine zP ?_ NB103_106.out _;(with_reducible repeat (first|refine z8 ?_ _|refine zb ?_|refine z7 ?_ _));refine zP ?_ NB103_106.out _;(with_reducible repeat (first|refine z8 ?_ _|refine zb ?_|refine z7 ?_ _));exact BK103.out⟩,⟨by (with_reducible repeat (first|refine z8 ?_ _|refine zb ?_|refine z7 ?_ _));refine zP ?_ NB104_106.out _;(with_reducible repeat (first|refine z8 ?_ _|refine zb ?_|refine z7 ?_ _));refine zP ?_ NB104_106.out _;(with_reducible repeat (first|refine z8 ?_ _|refine zb ?_|refine z7 ?_ _));exact BK104.out⟩,⟨by (with_reducible repeat (first|refine z8 ?_ _|refine zb ?_|refine z7 ?_ _));refine zT (cs:=#[.int .u64 t107,.int .u64 x107001_2]) ?_ 1 _ rfl;(with_reducible repeat (first|refine z8 ?_ _|refine zb ?_|refine z7 ?_ _));refine zT (cs:=#[.int .u64 x107000_2,.int .u64 x107001_2]) ?_ 0 _ rfl;(with_reducible repeat (first|refine z8 ?_ _|refine zb ?_|refine z7 ?_ _));exact BK106.out⟩,⟨by repeat (first|(with_reducible first|exact HB.out|apply zd|apply z3|apply zc|refine za ?_ GE101.out|refine za ?_ GE102.out|refine za ?_ GE103.out|refine za ?_ GE104.out|refine za ?_ GE106.out)|exact HB.out)⟩⟩
end Go.Proofs.Ytnhbdhgbmjcjdaa.P
/- The document's product of elements is the tower's. Own text. -/
namespace Go.Proofs.Ytnhbdhgbmjcjdaa.Sp
open Go.RowKit Go.Proofs.YtnhbdhgbmjcjdaaW.PrintWords Go.Proofs.YtnhbdhgbmjcjdaaW.PrintMore Go.Proofs.Ytnhbdhgbmjcjdaa.P Go.Proofs.Ytnhbdhgbmjcjdaa.Ar Go.Proofs.Ytnhbdhgbmjcjdaa.Tw
set_option linter.unusedVariables false
set_option linter.unusedSimpArgs false
theorem z6e : ∀ j : Nat, j < 6 → z18.f (j : Int) = some ((M j 6 : Nat) : Int) := by decide +kernel
theorem tw_lt {j v : Nat} (hj : j ≤ 6) (hv : v < Q 6) : tw 6 j v < Q 6 := by rw [tw_eq hj hv]; exact z1s _
theorem shlw (a w : Nat) (hw : w ≤ 64) : shl .u64 (a : Int) (w : Int) = (((a * 2 ^ w) % 2 ^ 64 : Nat) : Int) := by
  unfold shl
  have h64 : IntKind.u64.bits = 64 := rfl
  rw [h64, Int.toNat_natCast, Nat.min_eq_left hw]
  have hc : ((a : Int) * 2 ^ w) = ((a * 2 ^ w : Nat) : Int) := by simp
  rw [hc]
  simp [IntKind.wrap, IntKind.bits, IntKind.signed]
theorem z2H : ∀ (j : Nat), j ≤ 6 → ∀ (v : Nat), v < Q 6 → Ev (fun k => zq.f k ((j : Int) - 1) (v : Int)) ((tw 6 j v : Nat) : Int) := by
  intro j
  induction j with
  | zero =>
    intro _ v hv
    have h0 : (((0 : Nat) : Int) - 1) < 0 := by decide
    refine Ev.step (fun k => by rw [zq.f]) (Ev.pos h0 ?_)
    exact Ev.ret' rfl
  | succ j ih =>
    intro hj v hv
    have h32 := z1T (n := j) (by omega)
    have hw : IntKind.u64.wrap (((j + 1 : Nat) : Int) - 1) = (j : Int) := by rw [z2s (by omega) (by omega)]; omega
    have hw2 : wrap64 (((j + 1 : Nat) : Int) - 1 - 1) = (j : Int) - 1 := by rw [z22 (by omega) (by omega)]; omega
    have hj1 : (((j + 1 : Nat) : Int) - 1) = (j : Int) := by omega
    have hQ6 : Q 6 = 2 ^ 64 := rfl
    have hM : M j 6 < 2 ^ 64 := by rw [← hQ6]; exact M_lt_Q (by omega)
    have hd : v / 2 ^ 2 ^ j < 2 ^ 64 := Nat.lt_of_le_of_lt (Nat.div_le_self _ _) hv
    have hhi : (v / 2 ^ 2 ^ j) &&& M j 6 < 2 ^ 64 := Nat.and_lt_two_pow _ hM
    have hlo : v &&& M j 6 < 2 ^ 64 := Nat.and_lt_two_pow _ hM
    have hrec := ih (by omega) _ hhi
    have htw : tw 6 j ((v / 2 ^ 2 ^ j) &&& M j 6) < 2 ^ 64 := tw_lt (by omega) hhi
    rw [hj1] at hw hw2 ⊢
    refine Ev.step (fun k => by rw [zq.f]) (Ev.neg (by omega) ?_)
    simp only [hw]
    refine Ev.pos (Int.natCast_nonneg _) (Ev.bnd0 (z6e j (by omega)) (Ev.bnd0 (z6e j (by omega)) ?_))
    simp only [z2G j (by omega), z4v v (2 ^ j) (by omega), z2f _ _ hd hM, z2f _ _ hv hM, hw2]
    refine Ev.bnd hrec (Ev.ret' ?_)
    rw [z1L _ _ hlo htw, shlw _ _ (by omega), z5g _ _ (Nat.mod_lt _ (by decide)) hhi]
    rfl
/-- The generator of a level, as an element of the greatest one. -/
def gE (m : Nat) : E := of 7 (val (gen m))
theorem tw_hi {j : Nat} (hj : j ≤ 6) (x : T 6) : tw 6 j (val x) = val (of 6 (val (gen j)) * x) := by rw [tw_eq hj (z1s x), z1K]
theorem Times_ev (j : Nat) (hj : j ≤ 6) (x : E) : Ev (fun k => zx.f k (j : Int) (hi x) (lo x)) (hi (gE (j + 1) * x), lo (gE (j + 1) * x)) := by
  unfold zx.f
  by_cases c : j < 6
  · refine Ev.pos (by omega) ?_
    have h1 := z2H (j + 1) (by omega) (val x.1) (z1s x.1)
    have h2 := z2H (j + 1) (by omega) (val x.2) (z1s x.2)
    rw [show (((j + 1 : Nat) : Int) - 1) = (j : Int) by omega] at h1 h2
    refine Ev.bnd h1 (Ev.bnd h2 (Ev.ret' ?_))
    have e : gE (j + 1) = up (of 6 (val (gen (j + 1)))) := z4H (Nat.lt_of_lt_of_le (z4E (j + 1)) (z2U (by omega)))
    rw [e, z39, tw_hi (by omega), tw_hi (by omega)]; rfl
  · have : j = 6 := by omega
    subst this
    refine Ev.neg (by decide) ?_
    have h1 := z2H 6 (by omega) (val x.1) (z1s x.1)
    refine Ev.bnd h1 (Ev.ret' ?_)
    have e : gE 7 = gen 7 := z1K _
    have ev : of 6 (val (gen 6)) = gen 6 := z1K _
    rw [tw_hi (by omega), e, ev]
    unfold hi lo
    rw [z1L _ _ (z1s _) (z1s _), ← z1E]
    have m1 : (gen 7 * x).1 = x.2 + gen 6 * x.1 := by rw [z1X, z2C, z2D, one_mul, zero_mul, one_mul, add_zero]
    have m2 : (gen 7 * x).2 = x.1 := by rw [z1Y, z2C, z2D, one_mul, zero_mul, zero_add]
    rw [m1, m2]
/-- The element with one bit. -/
def bitE (n : Nat) : E := of 7 (2 ^ n)
theorem z4X {n : Nat} (hn : n < 128) : hi (bitE n) = (if n < 64 then 0 else ((2 ^ (n - 64) : Nat) : Int)) ∧ lo (bitE n) = (if n < 64 then ((2 ^ n : Nat) : Int) else 0) := by
  unfold bitE hi lo
  rw [z1Z, z2c, z2l]
  have hQ : Q 6 = 2 ^ 64 := rfl
  by_cases c : n < 64
  · have h1 : 2 ^ n < Q 6 := by rw [hQ]; exact Nat.pow_lt_pow_right (by decide) c
    rw [if_pos c, if_pos c, Nat.div_eq_of_lt h1, Nat.mod_eq_of_lt h1, z1U _ _ h1, z2E, z1z]; exact ⟨rfl, rfl⟩
  · have e : 2 ^ n = 2 ^ (n - 64) * Q 6 + 0 := by rw [hQ, ← Nat.pow_add, Nat.add_zero]; congr 1; omega
    have h2 : 2 ^ (n - 64) < Q 6 := by rw [hQ]; exact Nat.pow_lt_pow_right (by decide) (by omega)
    rw [if_neg c, if_neg c, e, z2J (z2i 6), z2K (z2i 6), z1U _ _ h2, z2E, z1z]; exact ⟨rfl, rfl⟩
theorem z4L (n : Nat) (hn : n < 128) : Ev (fun k => zy.f k (n : Int)) (hi (bitE n), lo (bitE n)) := by
  obtain ⟨h1, h2⟩ := z4X hn
  unfold zy.f
  refine Ev.neg (by omega) ?_
  rw [decide_eq_false (show ¬ ((n : Int) > 127) by omega), h1, h2]
  refine Ev.step (fun k => by rw [zy.j0]) (Ev.neg (by decide) ?_)
  by_cases c : n < 64
  · rw [if_pos c, if_pos c]
    refine Ev.neg (by omega) ?_
    rw [z2s (by omega) (by omega)]
    exact Ev.pos (Int.natCast_nonneg _) (Ev.ret' (by rw [z2G n (by omega)]))
  · rw [if_neg c, if_neg c]
    refine Ev.pos (by omega) ?_
    have e : IntKind.u64.wrap (wrap64 ((n : Int) - 64)) = ((n - 64 : Nat) : Int) := by
      rw [z22 (by omega) (by omega), z2s (by omega) (by omega)]; omega
    rw [e]
    exact Ev.pos (Int.natCast_nonneg _) (Ev.ret' (by rw [z2G (n - 64) (by omega)]))
theorem z3W (x n : Nat) : (x &&& 2 ^ n ≠ 0) ↔ x.testBit n = true := by
  constructor
  · intro h
    cases hb : x.testBit n with
    | true => rfl
    | false =>
      exfalso; apply h
      apply Nat.eq_of_testBit_eq
      intro i
      rw [Nat.testBit_and, Nat.zero_testBit]
      by_cases e : i = n
      · subst e; rw [hb, Bool.false_and]
      · rw [Nat.testBit_two_pow_of_ne (by omega), Bool.and_false]
  · intro h e
    have := congrArg (fun z => z.testBit n) e
    simp only [Nat.testBit_and, Nat.testBit_two_pow_self, Bool.and_true, Nat.zero_testBit] at this
    rw [h] at this; cases this
theorem hasBits (x : E) (n : Nat) (hn : n < 128) : ((Go.bits .or .u64 (Go.bits .and .u64 (lo x) (lo (bitE n))) (Go.bits .and .u64 (hi x) (hi (bitE n)))) != 0) = (val x).testBit n := by
  obtain ⟨h1, h2⟩ := z4X hn
  have hx1 := z1s x.1
  have hx2 := z1s x.2
  have hQ : Q 6 = 2 ^ 64 := rfl
  rw [hQ] at hx1 hx2
  have hv : val x = 2 ^ 64 * val x.1 + val x.2 := by rw [z1F, hQ, Nat.mul_comm]
  rw [h1, h2, hv]
  unfold hi lo
  by_cases c : n < 64
  · rw [if_pos c, if_pos c]
    have hp : 2 ^ n < 2 ^ 64 := Nat.pow_lt_pow_right (by decide) c
    have z : (0 : Int) = ((0 : Nat) : Int) := rfl
    rw [z, z2f _ _ hx2 hp, z2f _ _ hx1 (by decide), z5g _ _ (Nat.and_lt_two_pow _ hp) (Nat.and_lt_two_pow _ (by decide)), Nat.and_zero, Nat.or_zero]
    rw [Nat.testBit_two_pow_mul_add _ hx2, if_pos c, Bool.eq_iff_iff, ← z3W, bne_iff_ne]
    exact ⟨fun h e => h (by rw [e]), fun h e => h (by exact_mod_cast e)⟩
  · rw [if_neg c, if_neg c]
    have hp : 2 ^ (n - 64) < 2 ^ 64 := Nat.pow_lt_pow_right (by decide) (by omega)
    have z : (0 : Int) = ((0 : Nat) : Int) := rfl
    rw [z, z2f _ _ hx1 hp, z2f _ _ hx2 (by decide), z5g _ _ (Nat.and_lt_two_pow _ (by decide)) (Nat.and_lt_two_pow _ hp), Nat.and_zero, Nat.zero_or]
    rw [Nat.testBit_two_pow_mul_add _ hx2, if_neg c, Bool.eq_iff_iff, ← z3W, bne_iff_ne]
    exact ⟨fun h e => h (by rw [e]), fun h e => h (by exact_mod_cast e)⟩
theorem z53 (x : E) (n : Nat) (hn : n < 128) : Ev (fun k => zv.f k (hi x) (lo x) (n : Int)) ((val x).testBit n) := by
  unfold zv.f
  exact Ev.bnd (z4L n hn) (Ev.ret' (hasBits x n hn))
theorem and_one (n j : Nat) (hn : n < 2 ^ 63) (hj : j ≤ 64) : Go.bits .and .i64 (shr .i64 (n : Int) (j : Int)) 1 = (((n / 2 ^ j) % 2 : Nat) : Int) := by
  rw [shr_i64 n j hj]
  have := z4z (n / 2 ^ j) 1 (Nat.lt_of_le_of_lt (Nat.div_le_self _ _) hn) (by decide)
  simpa using this
theorem prod_l1 (a b acc : E) (n : Nat) (hn : n < 128) {R : Int × Int} (hk : Ev (fun k => zl.l0 k ((n + 1 : Nat) : Int) (hi a) (lo a) (hi b) (lo b) (hi (acc + gp 7 7 n * a)) (lo (acc + gp 7 7 n * a))) R) :
    ∀ (d j : Nat), j + d = 7 → Ev (fun k => zl.l1 k (n : Int) (j : Int) (hi a) (lo a) (hi b) (lo b) (hi acc) (lo acc) (hi (gp 7 j n * a)) (lo (gp 7 j n * a))) R := by
  intro d
  induction d with
  | zero =>
    intro j hj
    have : j = 7 := by omega
    subst this
    refine Ev.step (fun k => by rw [zl.l1]) (Ev.neg (by decide) (Ev.bnd0 (z3D acc _) ?_))
    simp only [z1G hn (by decide)]
    exact hk
  | succ d ih =>
    intro j hj
    have hu : IntKind.u64.wrap (j : Int) = (j : Int) := z2s (by omega) (by omega)
    have hih := ih (j + 1) (by omega)
    refine Ev.step (fun k => by rw [zl.l1]) (Ev.pos (by omega) ?_)
    simp only [hu, and_one n j (Nat.lt_trans hn (by decide)) (by omega), z1G (show j < 7 by omega) (by decide)]
    refine Ev.pos (Int.natCast_nonneg _) ?_
    have hgp : gp 7 (j + 1) n = (if n.testBit j then of 7 (val (gen (j + 1))) else 1) * gp 7 j n := rfl
    have htb : n.testBit j = decide ((n / 2 ^ j) % 2 = 1) := by rw [Nat.testBit_eq_decide_div_mod_eq]
    by_cases c : (n / 2 ^ j) % 2 = 1
    · refine Ev.pos (by omega) (Ev.bnd (Times_ev j (by omega) _) ?_)
      rw [hgp, htb, decide_eq_true c, if_pos rfl, mul_assoc] at hih
      exact hih
    · refine Ev.neg (by omega) ?_
      rw [hgp, htb, decide_eq_false c, if_neg (by decide), one_mul] at hih
      exact hih
theorem prod_l0 (a b : E) : ∀ (d n : Nat), n + d = 128 → Ev (fun k => zl.l0 k (n : Int) (hi a) (lo a) (hi b) (lo b) (hi (of 7 (val b % 2 ^ n) * a)) (lo (of 7 (val b % 2 ^ n) * a))) (hi (b * a), lo (b * a)) := by
  intro d
  induction d with
  | zero =>
    intro n hn
    have : n = 128 := by omega
    subst this
    have hb : val b % 2 ^ 128 = val b := Nat.mod_eq_of_lt (by have := z1s b; rw [z4c] at this; exact this)
    rw [hb, z1K]
    exact Ev.step (fun k => by rw [zl.l0]) (Ev.neg (by decide) (Ev.ret _))
  | succ d ih =>
    intro n hn
    have hn' : n < 128 := by omega
    have hih := ih (n + 1) (by omega)
    rw [bits_sum (val b) n (z1s b) (by simpa using hn')] at hih
    refine Ev.step (fun k => by rw [zl.l0]) (Ev.pos (by omega) (Ev.bnd (z53 b n hn') ?_))
    cases c : (val b).testBit n with
    | true =>
      refine Ev.pos rfl ?_
      rw [c, if_pos rfl, add_mul, ← gp_bit 7 n (by simpa using hn')] at hih
      have := prod_l1 a b _ n hn' hih 7 0 (by omega)
      have e0 : gp 7 0 n * a = a := one_mul a
      rw [e0] at this
      exact this
    | false =>
      refine Ev.neg (by decide) ?_
      rw [c, if_neg (by decide), add_zero] at hih
      simp only [z1G hn' (by decide)]
      exact hih
theorem Product_ev (x y : E) : Ev (fun k => zl.f k (hi x) (lo x) (hi y) (lo y)) (hi (x * y), lo (x * y)) := by
  unfold zl.f
  have := prod_l0 x y 128 0 (by decide)
  rw [Nat.pow_zero, Nat.mod_one, z2E, zero_mul, z1V, z1W, mul_comm y x] at this
  exact this
end Go.Proofs.Ytnhbdhgbmjcjdaa.Sp
namespace Go.Proofs.Ytnhbdhgbmjcjdaa.P
open Go.RowKit Go.Proofs.YtnhbdhgbmjcjdaaW.PrintWords Go.Proofs.YtnhbdhgbmjcjdaaW.PrintLast Go.Proofs.YtnhbdhgbmjcjdaaW.PrintMore
attribute [local go_sem] z10 z12 z1h z1i zQ zR z11 z13   -- for this text's walks alone
set_option linter.unusedVariables false
set_option linter.unusedSimpArgs false
def z1b.j0 : Nat → Int → Bool → Option (Int)
 | 0,_,_=>none
 | k + 1,x0,x3=>if x3 = true then (some 0) else (if x0 ≤ 3 then (some 1) else (if 0 ≤ (wrap64 (x0 - 3)) then (some (shl .i64 1 (wrap64 (x0 - 3)))) else (none)))
def z1b.f (k : Nat) (a0 : Int) : Option (Int):=if a0 < 0 then (z1b.j0 k a0 true) else (z1b.j0 k a0 (decide (a0 > 7)))
theorem z1b.zY : ∀ k,(∀ y0 y1,LeO (z1b.j0 k y0 y1) (z1b.j0 (k + 1) y0 y1))
 | 0=>fun _ _ r h=>by simp [z1b.j0] at h
 | k + 1=>by
  have ih0:=z1b.zY k
  · intro y0 y1
    unfold z1b.j0
    repeat' first
    | (with_reducible exact ih0 _ _)
    | (with_reducible exact LeO.refl _)
    | (with_reducible exact LeO.none _)
    | (with_reducible refine LeO.ite ?_ ?_)
    | (with_reducible refine LeO.bind ?_ (fun _=>?_))
    | exact ih0 _ _
    | exact LeO.none _
    | refine LeO.ite ?_ ?_
    | refine LeO.bind ?_ (fun _=>?_)
theorem z1b.mono : ∀ a0 k,LeO (z1b.f k a0) (z1b.f (k + 1) a0):=by
 intro a0 k
 have ih0:=z1b.zY k
 unfold z1b.f
 repeat' first
  | (with_reducible exact ih0 _ _)
  | (with_reducible exact LeO.refl _)
  | (with_reducible exact LeO.none _)
  | (with_reducible refine LeO.ite ?_ ?_)
  | (with_reducible refine LeO.bind ?_ (fun _=>?_))
  | exact ih0 _ _
  | exact LeO.none _
  | refine LeO.ite ?_ ?_
  | refine LeO.bind ?_ (fun _=>?_)
set_option maxHeartbeats 8000000 in
set_option maxRecDepth 100000 in
theorem z1b.calls (k : Nat) (a0 : Int) (r : Int) (w : World) (h : z1b.f k a0 = some r) :
 Calls Try.prog 61 #[.int .i64 a0] w fun e w'=>e = .returned (.int .i64 r) ∧ Drawn0 w w':=by
 have H : (if a0 < 0 then (z1b.j0 k a0 true) else (z1b.j0 k a0 (decide (a0 > 7)))) = some r:=h
 clear h
 have HC2:=z1.mk H
 clear H
 go_enter Try.func61,Try.ntmps61
 go_upto_region 1 with (fail)
 go_cut [3] (fun v3 wc=>∃ (kq : Nat) (x3_1 : Bool),v3 = .bool x3_1 ∧ z1 (z1b.j0 kq a0 x3_1 = some r) ∧ z1 (kq ≤ k) ∧ Drawn0 w wc)
 case first =>
  have H:=HC2.out
  clear HC2
  by_cases c3 : a0 < 0
  rotate_left
  · rw [if_neg c3] at H
    have c3b0 : decide (a0 < 0) = false:=decide_eq_false c3
    clear c3
    (first|rw [c3b0]|(simp only [zH,zI];rw [c3b0])|skip)
    have H':=z1.mk H
    clear H
    go_wp2
    go_meet
    case rel=>exact ⟨_,(decide (a0 > 7)),zz82,H',⟨by first|omega|exact Nat.le_refl _⟩,by repeat (first|exact Drawn0.refl _|apply Drawn0.step)⟩
  rw [if_pos c3] at H
  have c3b0 : decide (a0 < 0) = true:=decide_eq_true c3
  clear c3
  (first|rw [c3b0]|(simp only [zH,zI];rw [c3b0])|skip)
  have H':=z1.mk H
  clear H
  go_wp2
  go_meet
  case rel=>exact ⟨_,(true),zz82,H',⟨by first|omega|exact Nat.le_refl _⟩,by repeat (first|exact Drawn0.refl _|apply Drawn0.step)⟩
 case rest =>
  clear HC2
  (try clear p2);(try clear c3);(try clear c3b0)
  obtain ⟨kq,x3_1,rfl,HA,HJ1,⟨mc1,rfl⟩⟩:=hcut
  cases kq with
  | zero=>exact absurd HA.out (by simp [z1b.j0])
  | succ kj1 =>
   have H:=HA.out
   clear HA
   simp only [z1b.j0] at H
   by_cases c4 : x3_1 = true
   · subst c4
     have H1 : (some 0) = some r:=by rw [if_pos rfl] at H;exact H
     clear H
     have H:=H1
     clear H1
     obtain rfl:=Option.some.inj H
     go_wp2
     go_ret
     exact ⟨by first|rfl|(simp;done)|(simp [*];done),by repeat (first|exact Drawn0.refl _|apply Drawn0.step)⟩
   replace c4:=Bool.eq_false_iff.mpr c4
   subst c4
   have H1 : (if a0 ≤ 3 then (some 1) else (if 0 ≤ (wrap64 (a0 - 3)) then (some (shl .i64 1 (wrap64 (a0 - 3)))) else (none))) = some r:=by rw [if_neg (show ¬ (false = true) by decide)] at H;exact H
   clear H
   have H:=H1
   clear H1
   by_cases c5 : a0 ≤ 3
   · rw [if_pos c5] at H
     have c5b0 : decide (a0 ≤ 3) = true:=decide_eq_true c5
     clear c5
     obtain rfl:=Option.some.inj H
     go_wp2
     go_ret
     exact ⟨by first|rfl|(simp;done)|(simp [*];done),by repeat (first|exact Drawn0.refl _|apply Drawn0.step)⟩
   rw [if_neg c5] at H
   have c5b0 : decide (a0 ≤ 3) = false:=decide_eq_false c5
   clear c5
   obtain ⟨ji6,hji6⟩ : ∃ j_ : Int,(wrap64 (a0 - 3)) = j_:=⟨_,rfl⟩
   replace H : (if 0 ≤ (ji6) then (some (shl .i64 1 (ji6))) else (none)) = some r:=by first|(rw [hji6] at H;exact H)|(simp only [hji6] at H ⊢;exact H)
   have hji6w : (IntKind.i64.wrap (a0 - 3)) = ji6:=(zH _).trans hji6
   by_cases c7 : 0 ≤ (ji6)
   rotate_left
   · rw [if_neg c7] at H
     exact absurd H zz87
   rw [if_pos c7] at H
   have c7b0:=eq_true c7
   have c7b1 : decide (0 ≤ (ji6)) = true:=decide_eq_true c7
   clear c7
   obtain ⟨ji8,hji8⟩ : ∃ j_ : Int,(shl .i64 1 (ji6)) = j_:=⟨_,rfl⟩
   replace H : (some ji8) = some r:=by first|(rw [hji8] at H;exact H)|(simp only [hji8] at H ⊢;exact H)
   have hji8_ : (IntKind.i64.wrap (1 * 2 ^ min (ji6).toNat 64)) = ji8:=hji8
   have hji8z : (ji6) ≤ 64 → (IntKind.i64.wrap (1 * 2 ^ (ji6).toNat)) = ji8:=z1I hji8
   have hji8u : (IntKind.i64.wrap (2 ^ min (ji6).toNat 64)) = ji8:=by have h_:=hji8_;rw [Int.one_mul] at h_;exact h_
   have hji8v : (ji6) ≤ 64 → (IntKind.i64.wrap (2 ^ (ji6).toNat)) = ji8:=fun hle_=>by have h_:=hji8z hle_;rw [Int.one_mul] at h_;exact h_
   have hji8y : (wrap64 (1 * 2 ^ min (ji6).toNat 64)) = ji8:=(zH _).symm.trans hji8_
   have hji8x : (ji6) ≤ 64 → (wrap64 (1 * 2 ^ (ji6).toNat)) = ji8:=fun h_=>(zH _).symm.trans (hji8z h_)
   obtain rfl:=Option.some.inj H
   go_wp2
   go_ret
   exact ⟨by first|rfl|(simp;done)|(simp only [← hji6,← hji8] <;> (first|rfl|simp))|(simp [*];done),by repeat (first|exact Drawn0.refl _|apply Drawn0.step)⟩
end Go.Proofs.Ytnhbdhgbmjcjdaa.P
namespace Go.Proofs.Ytnhbdhgbmjcjdaa.P
open Go.RowKit Go.Proofs.YtnhbdhgbmjcjdaaW.PrintWords Go.Proofs.YtnhbdhgbmjcjdaaW.PrintLast Go.Proofs.YtnhbdhgbmjcjdaaW.PrintMore
attribute [local go_sem] z10 z12 z1h z1i zQ zR z11 z13   -- for this text's walks alone
set_option linter.unusedVariables false
set_option linter.unusedSimpArgs false
def z1C.f (a0_0 : Int) (a0_1 : Int) (a1 : Int) : Option (Int):=if a1 ≥ 64 then (if 0 ≤ (IntKind.u64.wrap (wrap64 (a1 - 64))) then (some (Go.bits .and .u64 (shr .u64 a0_0 (IntKind.u64.wrap (wrap64 (a1 - 64)))) 1)) else (none)) else (if 0 ≤ (IntKind.u64.wrap (a1)) then (some (Go.bits .and .u64 (shr .u64 a0_1 (IntKind.u64.wrap (a1))) 1)) else (none))
set_option maxHeartbeats 8000000 in
set_option maxRecDepth 100000 in
theorem z1C.calls (a0_0 : Int) (a0_1 : Int) (a1 : Int) (r : Int) (w : World) (h : z1C.f a0_0 a0_1 a1 = some r) :
 Calls Try.prog 62 #[.agg #[.int .u64 a0_0,.int .u64 a0_1],.int .i64 a1] w fun e w'=>e = .returned (.int .u64 r) ∧ Below w.heap.size w w':=by
 have hu38:=Try.underlying38
 have HB:=z1.mk (Below.refl w.heap.size w)
 have H : (if a1 ≥ 64 then (if 0 ≤ (IntKind.u64.wrap (wrap64 (a1 - 64))) then (some (Go.bits .and .u64 (shr .u64 a0_0 (IntKind.u64.wrap (wrap64 (a1 - 64)))) 1)) else (none)) else (if 0 ≤ (IntKind.u64.wrap (a1)) then (some (Go.bits .and .u64 (shr .u64 a0_1 (IntKind.u64.wrap (a1))) 1)) else (none))) = some r:=h
 clear h
 by_cases c3 : a1 ≥ 64
 · rw [if_pos c3] at H
   have c3b0 : decide (64 ≤ a1) = true:=decide_eq_true c3
   clear c3
   obtain ⟨ji4,hji4⟩ : ∃ j_ : Int,(IntKind.u64.wrap (wrap64 (a1 - 64))) = j_:=⟨_,rfl⟩
   replace H : (if 0 ≤ (ji4) then (some (Go.bits .and .u64 (shr .u64 a0_0 (ji4)) 1)) else (none)) = some r:=by first|(rw [hji4] at H;exact H)|(simp only [hji4] at H ⊢;exact H)
   by_cases c5 : 0 ≤ (ji4)
   rotate_left
   · rw [if_neg c5] at H
     exact absurd H zz87
   rw [if_pos c5] at H
   have c5b0:=eq_true c5
   have c5b1 : decide (0 ≤ (ji4)) = true:=decide_eq_true c5
   clear c5
   obtain ⟨ji6,hji6⟩ : ∃ j_ : Int,(shr .u64 a0_0 (ji4)) = j_:=⟨_,rfl⟩
   replace H : (some (Go.bits .and .u64 (ji6) 1)) = some r:=by first|(rw [hji6] at H;exact H)|(simp only [hji6] at H ⊢;exact H)
   have hji6_ : (a0_0 / 2 ^ min (ji4).toNat 64) = ji6:=hji6
   have hji6z : (ji4) ≤ 64 → (a0_0 / 2 ^ (ji4).toNat) = ji6:=z2m hji6
   obtain rfl:=Option.some.inj H
   go_enter Try.func62,Try.ntmps62
   go_wp2_with (first|((with_reducible refine zE (N:=2) rfl ?_);refine zC ?hg (N:=2) ?hd (cs:=#[.int .u64 a0_0,.int .u64 a0_1]) (t:=38) ?hr ?_;(case hd=>rfl);(case hg=>rfl);(case hr=>first|(go_simp;done)|(go_simp;rfl));intro gb101 hg w7 hbox hb;have n0_:=z1.mk (ze zz47 hb);have n1_:=z1.mk (hbox);have n2_:=z1.mk ((by rw [hg];exact (zf zz47) : w.heap.size ≤ gb101));have n3_:=z1.mk ((by rw [hg];exact (zf zz47) : w.heap.size ≤ gb101));clear HB;have HB:=n0_;have BK101:=n1_;have GW101:=n2_;have GE101:=n3_;clear n0_ n1_ n2_ n3_;clear hb hbox hg;have hcz8_0 : w7.cell? ⟨gb101,0,none⟩ = some (.int .u64 a0_0):=(z5 BK101.out 0).trans rfl;have hcz8_1 : w7.cell? ⟨gb101,1,none⟩ = some (.int .u64 a0_1):=(z5 BK101.out 1).trans rfl;have hfz8_0:=z4 BK101.out 0;have hfz8_1:=z4 BK101.out 1))
   go_ret
   exact ⟨by first|rfl|(simp [zi,zj] <;> rfl)|(simp only [← hji4,← hji6];first|rfl|(simp [zi,zj] <;> rfl))|(simp [*,zi,zj] <;> rfl),by repeat (first|(with_reducible first|exact HB.out|apply zd|apply z3|apply zc|refine za ?_ GE101.out)|exact HB.out)⟩
 rw [if_neg c3] at H
 have c3b0 : decide (64 ≤ a1) = false:=decide_eq_false c3
 clear c3
 obtain ⟨ji9,hji9⟩ : ∃ j_ : Int,(IntKind.u64.wrap (a1)) = j_:=⟨_,rfl⟩
 replace H : (if 0 ≤ (ji9) then (some (Go.bits .and .u64 (shr .u64 a0_1 (ji9)) 1)) else (none)) = some r:=by first|(rw [hji9] at H;exact H)|(simp only [hji9] at H ⊢;exact H)
 by_cases c10 : 0 ≤ (ji9)
 rotate_left
 · rw [if_neg c10] at H
   exact absurd H zz87
 rw [if_pos c10] at H
 have c10b0:=eq_true c10
 have c10b1 : decide (0 ≤ (ji9)) = true:=decide_eq_true c10
 clear c10
 obtain ⟨ji11,hji11⟩ : ∃ j_ : Int,(shr .u64 a0_1 (ji9)) = j_:=⟨_,rfl⟩
 replace H : (some (Go.bits .and .u64 (ji11) 1)) = some r:=by first|(rw [hji11] at H;exact H)|(simp only [hji11] at H ⊢;exact H)
 have hji11_ : (a0_1 / 2 ^ min (ji9).toNat 64) = ji11:=hji11
 have hji11z : (ji9) ≤ 64 → (a0_1 / 2 ^ (ji9).toNat) = ji11:=z2m hji11
 obtain rfl:=Option.some.inj H
 go_enter Try.func62,Try.ntmps62
 go_wp2_with (first|((with_reducible refine zE (N:=2) rfl ?_);refine zC ?hg (N:=2) ?hd (cs:=#[.int .u64 a0_0,.int .u64 a0_1]) (t:=38) ?hr ?_;(case hd=>rfl);(case hg=>rfl);(case hr=>first|(go_simp;done)|(go_simp;rfl));intro gb101 hg w12 hbox hb;have n0_:=z1.mk (ze zz47 hb);have n1_:=z1.mk (hbox);have n2_:=z1.mk ((by rw [hg];exact (zf zz47) : w.heap.size ≤ gb101));have n3_:=z1.mk ((by rw [hg];exact (zf zz47) : w.heap.size ≤ gb101));clear HB;have HB:=n0_;have BK101:=n1_;have GW101:=n2_;have GE101:=n3_;clear n0_ n1_ n2_ n3_;clear hb hbox hg;have hcz13_0 : w12.cell? ⟨gb101,0,none⟩ = some (.int .u64 a0_0):=(z5 BK101.out 0).trans rfl;have hcz13_1 : w12.cell? ⟨gb101,1,none⟩ = some (.int .u64 a0_1):=(z5 BK101.out 1).trans rfl;have hfz13_0:=z4 BK101.out 0;have hfz13_1:=z4 BK101.out 1))
 go_ret
 exact ⟨by first|rfl|(simp [zi,zj] <;> rfl)|(simp only [← hji9,← hji11];first|rfl|(simp [zi,zj] <;> rfl))|(simp [*,zi,zj] <;> rfl),by repeat (first|(with_reducible first|exact HB.out|apply zd|apply z3|apply zc|refine za ?_ GE101.out)|exact HB.out)⟩
end Go.Proofs.Ytnhbdhgbmjcjdaa.P
namespace Go.Proofs.Ytnhbdhgbmjcjdaa.P
open Go.RowKit Go.Proofs.YtnhbdhgbmjcjdaaW.PrintWords Go.Proofs.YtnhbdhgbmjcjdaaW.PrintLast Go.Proofs.YtnhbdhgbmjcjdaaW.PrintMore
attribute [local go_sem] z10 z12 z1h z1i zQ zR z11 z13   -- for this text's walks alone
set_option linter.unusedVariables false
set_option linter.unusedSimpArgs false
mutual
def zB.j0 : Nat → Int → List Int → Bool → Int → Int → Option (Bool)
 | 0,_,_,_,_,_=>none
 | k + 1,x0,x5,x13,x102000,x102001=>if x13 = true then (some false) else (if 0 ≤ x0 then (if x0 < (x5.length : Int) then (zB.l0 k (rd x5 x0) x102000 x102001) else (none)) else (none))
def zB.l0 : Nat → Int → Int → Int → Option (Bool)
 | 0,_,_,_=>none
 | k + 1,x6,x102000,x102001=>if x6 < 128 then ((z1C.f x102000 x102001 x6).bind fun t106=>(if t106 = 1 then (some false) else (zB.l0 k (wrap64 (x6 + 1)) x102000 x102001))) else (some true)
end
def zB.f (k : Nat) (a0 : Int) (a1_0 : Int) (a1_1 : Int) : Option (Bool):=(some (([1,2,4,8,16,32,64,128] : List Int) : List Int)).bind fun y102=>(if a0 < 0 then (zB.j0 k a0 y102 true a1_0 a1_1) else (zB.j0 k a0 y102 (decide (a0 > 7)) a1_0 a1_1))
theorem zB.zY : ∀ k,(∀ y0 y1 y2 y3 y4,LeO (zB.j0 k y0 y1 y2 y3 y4) (zB.j0 (k + 1) y0 y1 y2 y3 y4)) ∧ (∀ y0 y1 y2,LeO (zB.l0 k y0 y1 y2) (zB.l0 (k + 1) y0 y1 y2))
 | 0=>⟨fun _ _ _ _ _ r h=>by simp [zB.j0] at h,fun _ _ _ r h=>by simp [zB.l0] at h⟩
 | k + 1=>by
  obtain ⟨ih0,ih1⟩:=zB.zY k
  refine ⟨?_,?_⟩
  · intro y0 y1 y2 y3 y4
    unfold zB.j0
    repeat' first
    | (with_reducible exact ih0 _ _ _ _ _)
    | (with_reducible exact ih1 _ _ _)
    | (with_reducible exact LeO.refl _)
    | (with_reducible exact LeO.none _)
    | (with_reducible refine LeO.ite ?_ ?_)
    | (with_reducible refine LeO.bind ?_ (fun _=>?_))
    | exact ih0 _ _ _ _ _
    | exact ih1 _ _ _
    | exact LeO.none _
    | refine LeO.ite ?_ ?_
    | refine LeO.bind ?_ (fun _=>?_)
  · intro y0 y1 y2
    unfold zB.l0
    repeat' first
    | (with_reducible exact ih0 _ _ _ _ _)
    | (with_reducible exact ih1 _ _ _)
    | (with_reducible exact LeO.refl _)
    | (with_reducible exact LeO.none _)
    | (with_reducible refine LeO.ite ?_ ?_)
    | (with_reducible refine LeO.bind ?_ (fun _=>?_))
    | exact ih0 _ _ _ _ _
    | exact ih1 _ _ _
    | exact LeO.none _
    | refine LeO.ite ?_ ?_
    | refine LeO.bind ?_ (fun _=>?_)
theorem zB.mono : ∀ a0 a1 a2 k,LeO (zB.f k a0 a1 a2) (zB.f (k + 1) a0 a1 a2):=by
 intro a0 a1 a2 k
 obtain ⟨ih0,ih1⟩:=zB.zY k
 unfold zB.f
 repeat' first
  | (with_reducible exact ih0 _ _ _ _ _)
  | (with_reducible exact ih1 _ _ _)
  | (with_reducible exact LeO.refl _)
  | (with_reducible exact LeO.none _)
  | (with_reducible refine LeO.ite ?_ ?_)
  | (with_reducible refine LeO.bind ?_ (fun _=>?_))
  | exact ih0 _ _ _ _ _
  | exact ih1 _ _ _
  | exact LeO.none _
  | refine LeO.ite ?_ ?_
  | refine LeO.bind ?_ (fun _=>?_)
set_option maxHeartbeats 8000000 in
set_option maxRecDepth 100000 in
theorem zB.calls (k : Nat) (a0 : Int) (a1_0 : Int) (a1_1 : Int) (r : Bool) (w : World) (h : zB.f k a0 a1_0 a1_1 = some r) :
 Calls Try.prog 37 #[.int .i64 a0,.agg #[.int .u64 a1_0,.int .u64 a1_1]] w fun e w'=>e = .returned (.bool r) ∧ Below w.heap.size w w':=by
 have hu38:=Try.underlying38
 have HB:=z1.mk (Below.refl w.heap.size w)
 have H : ((some (([1,2,4,8,16,32,64,128] : List Int) : List Int)).bind fun y102=>(if a0 < 0 then (zB.j0 k a0 y102 true a1_0 a1_1) else (zB.j0 k a0 y102 (decide (a0 > 7)) a1_0 a1_1))) = some r:=h
 clear h
 obtain ⟨y102,hy102⟩ : ∃ y_ : List Int,y_ = (([1,2,4,8,16,32,64,128] : List Int)):=⟨_,rfl⟩
 replace H : (if a0 < 0 then (zB.j0 k a0 y102 true a1_0 a1_1) else (zB.j0 k a0 y102 (decide (a0 > 7)) a1_0 a1_1)) = some r:=by first|(rw [hy102];with_reducible exact H)|(have H2_:=(Option.bind_some _ _).symm.trans H;rw [hy102];with_reducible exact H2_)|(have H2_:=(Option.bind_some _ _).symm.trans H;with_reducible exact H2_)|with_reducible exact H|(rw [hy102];exact H)|exact H
 have Ny102:=z1.mk hy102
 clear hy102
 have HC3:=z1.mk H
 clear H
 go_enter Try.func37,Try.ntmps37
 go_upto_region 2 with (first|((with_reducible refine zE (N:=3) rfl ?_);refine zC ?hg (N:=3) ?hd (cs:=#[.int .u64 a1_0,.int .u64 a1_1]) (t:=38) ?hr ?_;(case hd=>rfl);(case hg=>rfl);(case hr=>first|(go_simp;done)|(go_simp;rfl));intro gb101 hg w4 hbox hb;have n0_:=z1.mk (ze zz47 hb);have n1_:=z1.mk (hbox);have n2_:=z1.mk ((by rw [hg];exact (zf zz47) : w.heap.size ≤ gb101));have n3_:=z1.mk ((by rw [hg];exact (zf zz47) : w.heap.size ≤ gb101));clear HB;have HB:=n0_;have BK101:=n1_;have GW101:=n2_;have GE101:=n3_;clear n0_ n1_ n2_ n3_;clear hb hbox hg)|((with_reducible refine zE (N:=7) rfl ?_);refine Kd.z34 (Kd.int .i64) _ 3 ?hg (N:=7) ?hd (xs:=([1,2,4,8,16,32,64,128] : List Int)) (inner:=[.int .i64 1,.int .i64 2,.int .i64 4,.int .i64 8,.int .i64 16,.int .i64 32,.int .i64 64,.int .i64 128]) (ok:=fun _=>True) (okp:=fun _=>True) ?hr ?hp (fun _ hk=>hk) trivial (Below.refl _ _) (Nat.le_refl _) zz87 ?_;(case hd=>rfl);(case hg=>rfl);(case hr=>first|(go_simp;done)|(go_simp;rfl));(case hp=>exact (Reps.one (show Kd.M (Kd.int .i64) _ _ _ 1 [.int .i64 1] from rfl) (Reps.one (show Kd.M (Kd.int .i64) _ _ _ 2 [.int .i64 2] from rfl) (Reps.one (show Kd.M (Kd.int .i64) _ _ _ 4 [.int .i64 4] from rfl) (Reps.one (show Kd.M (Kd.int .i64) _ _ _ 8 [.int .i64 8] from rfl) (Reps.one (show Kd.M (Kd.int .i64) _ _ _ 16 [.int .i64 16] from rfl) (Reps.one (show Kd.M (Kd.int .i64) _ _ _ 32 [.int .i64 32] from rfl) (Reps.one (show Kd.M (Kd.int .i64) _ _ _ 64 [.int .i64 64] from rfl) (Reps.one (show Kd.M (Kd.int .i64) _ _ _ 128 [.int .i64 128] from rfl) (Reps.none _ _))))))))));intro v103 w5 ho6 hb hg_ hnew_;clear hg_ hnew_;(first|rw [← Ny102.out] at ho6|(simp only [Int.reduceToNat] at ho6;rw [← Ny102.out] at ho6));have n0_:=z1.mk (Kd.z1q ho6 (zf zz41));have n1_:=z1.mk (z9 (g:=gb101) (o:=.cells #[.int .u64 a1_0,.int .u64 a1_1] 38 (0,0)) zz49 hb);have n2_:=z1.mk (ze zz41 hb);clear BK101;clear HB;have HO104:=n0_;have BK101:=n1_;have HB:=n2_;clear n0_ n1_ n2_;clear hb ho6))
 (try simp only [Act.put,List.setIfInBounds_toArray,List.set_cons_zero,List.set_cons_succ])
 go_cut [13] (fun v13 wc=>∃ (kq : Nat) (x13_2 : Bool),v13 = .bool x13_2 ∧ z1 (zB.j0 kq a0 y102 x13_2 a1_0 a1_1 = some r) ∧ z1 (kq ≤ k) ∧ z1 (Kd.R (Kd.int .i64) 3 wc w.heap.size (fun _=>True) v103 y102) ∧ z1 (wc.heap[gb101]? = some (.cells #[.int .u64 a1_0,.int .u64 a1_1] 38 (0,0))) ∧ z1 (Below w.heap.size w wc))
 case first =>
  have H:=HC3.out
  clear HC3
  by_cases c7 : a0 < 0
  rotate_left
  · rw [if_neg c7] at H
    have c7b0 : decide (a0 < 0) = false:=decide_eq_false c7
    clear c7
    (first|rw [c7b0]|(simp only [zH,zI];rw [c7b0])|skip)
    have H':=z1.mk H
    clear H
    go_wp2
    go_meet
    case rel=>exact ⟨_,(decide (a0 > 7)),zz82,H',⟨by first|omega|exact Nat.le_refl _⟩,⟨by (with_reducible repeat (first|apply Kd.zL|apply Kd.zM|apply Kd.zS));exact HO104.out⟩,⟨by (with_reducible repeat (first|refine z8 ?_ _|refine zb ?_|refine z7 ?_ _));exact BK101.out⟩,⟨by repeat (first|(with_reducible first|exact HB.out|apply zd|apply z3|apply zc|refine za ?_ GE101.out)|exact HB.out)⟩⟩
  rw [if_pos c7] at H
  have c7b0 : decide (a0 < 0) = true:=decide_eq_true c7
  clear c7
  (first|rw [c7b0]|(simp only [zH,zI];rw [c7b0])|skip)
  have H':=z1.mk H
  clear H
  go_wp2
  go_meet
  case rel=>exact ⟨_,(true),zz82,H',⟨by first|omega|exact Nat.le_refl _⟩,⟨by (with_reducible repeat (first|apply Kd.zL|apply Kd.zM|apply Kd.zS));exact HO104.out⟩,⟨by (with_reducible repeat (first|refine z8 ?_ _|refine zb ?_|refine z7 ?_ _));exact BK101.out⟩,⟨by repeat (first|(with_reducible first|exact HB.out|apply zd|apply z3|apply zc|refine za ?_ GE101.out)|exact HB.out)⟩⟩
 case rest =>
  clear HC3
  (try clear p2);(try clear c3);(try clear c7);(try clear c7b0)
  obtain ⟨kq,x13_2,rfl,HA,HJ2,HO_5,BK101,HB⟩:=hcut
  cases kq with
  | zero=>exact absurd HA.out (by simp [zB.j0])
  | succ kj2 =>
   have H:=HA.out
   clear HA
   simp only [zB.j0] at H
   by_cases c8 : x13_2 = true
   · subst c8
     have H1 : (some false) = some r:=by rw [if_pos rfl] at H;exact H
     clear H
     have H:=H1
     clear H1
     obtain rfl:=Option.some.inj H
     go_wp2
     go_ret
     exact ⟨by first|rfl|(simp [zi,zj] <;> rfl)|(simp [*,zi,zj] <;> rfl),by repeat (first|(with_reducible first|exact HB.out|apply zd|apply z3|apply zc|refine za ?_ GE101.out)|exact HB.out)⟩
   replace c8:=Bool.eq_false_iff.mpr c8
   subst c8
   have H1 : (if 0 ≤ a0 then (if a0 < (y102.length : Int) then (zB.l0 kj2 (rd y102 a0) a1_0 a1_1) else (none)) else (none)) = some r:=by rw [if_neg (show ¬ (false = true) by decide)] at H;exact H
   clear H
   have H:=H1
   clear H1
   by_cases c9 : 0 ≤ a0
   rotate_left
   · rw [if_neg c9] at H
     exact absurd H zz87
   rw [if_pos c9] at H
   have c9b0 : decide (0 ≤ a0) = true:=decide_eq_true c9
   clear c9
   by_cases c10 : a0 < (y102.length : Int)
   rotate_left
   · rw [if_neg c10] at H
     exact absurd H zz87
   rw [if_pos c10] at H
   have c10b0 : decide (a0 < (y102.length : Int)) = true:=decide_eq_true c10
   clear c10
   have H':=z1.mk H
   clear H
   obtain ⟨Ao11,co11,eo11⟩:=Kd.z1e HO_5.out
   subst eo11
   have p105 : 0 ≤ (a0 : Int):=of_decide_eq_true zz81
   have q105 : a0 < (y102.length : Int):=of_decide_eq_true zz81
   obtain ⟨ad105,e105,hx105_0⟩:=Kd.z5U (Kd.zA HO_5.out).2.2 a0 p105 q105
   cases e105
   replace p105:=eq_true p105
   replace q105:=eq_true q105
   go_wp2
   go_loopg [6] kj2 (fun kq v6 w'=>∃ (x6_2 : Int),v6 = .int .i64 x6_2 ∧ z1 (zB.l0 kq x6_2 a1_0 a1_1 = some r) ∧ z1 (kq ≤ kj2) ∧ z1 (w'.heap[gb101]? = some (.cells #[.int .u64 a1_0,.int .u64 a1_1] 38 (0,0))) ∧ z1 (Below w.heap.size w w'))
   case atStart=>exact ⟨(rd y102 a0),zz82,H',⟨Nat.le_refl _⟩,⟨by (with_reducible repeat (first|refine z8 ?_ _|refine zb ?_|refine z7 ?_ _));exact BK101.out⟩,⟨by repeat (first|(with_reducible first|exact HB.out|apply zd|apply z3|apply zc|refine za ?_ GE101.out)|exact HB.out)⟩⟩
   case round =>
    clear H'
    (try clear c1);(try clear p1);(try clear q1);(try clear hx1);(try clear p2);(try clear c3);(try clear c7);(try clear c7b0);(try clear c8);(try clear c9);(try clear c9b0);(try clear c10);(try clear c10b0);(try clear p10);(try clear q10);(try clear hx10);(try clear hx105_0);(try clear p105);(try clear p2);(try clear q105)
    obtain ⟨x6_2,rfl,HA,HK2,BK101,HB⟩:=hrel
    cases gk with
    | zero=>exact absurd HA.out (by simp [zB.l0])
    | succ k2 =>
     have H:=HA.out
     clear HA
     simp only [zB.l0] at H
     by_cases c12 : x6_2 < 128
     rotate_left
     · rw [if_neg c12] at H
       have c12b0 : decide (x6_2 < 128) = false:=decide_eq_false c12
       clear c12
       obtain rfl:=Option.some.inj H
       go_wp2
       go_ret
       exact ⟨by first|rfl|(simp [zi,zj] <;> rfl)|(simp [*,zi,zj] <;> rfl),by repeat (first|(with_reducible first|exact HB.out|apply zd|apply z3|apply zc|refine za ?_ GE101.out)|exact HB.out)⟩
     rw [if_pos c12] at H
     have c12b0 : decide (x6_2 < 128) = true:=decide_eq_true c12
     clear c12
     replace H:=Option.bind_eq_some_iff.mp H
     obtain ⟨t106,A130,H⟩:=H
     replace H : (if t106 = 1 then (some false) else (zB.l0 k2 (wrap64 (x6_2 + 1)) a1_0 a1_1)) = some r:=H
     have A13:=z1.mk A130
     clear A130
     by_cases c14 : t106 = 1
     · rw [if_pos c14] at H
       have c14b0 : (t106 == 1) = true:=beq_iff_eq.mpr c14
       have c14b1 : (t106 != 1) = false:=bne_eq_false_iff_eq.mpr c14
       clear c14
       obtain rfl:=Option.some.inj H
       have hcz15_0 : wr.cell? ⟨gb101,0,none⟩ = some (.int .u64 a1_0):=(z5 BK101.out 0).trans rfl
       have hcz15_1 : wr.cell? ⟨gb101,1,none⟩ = some (.int .u64 a1_1):=(z5 BK101.out 1).trans rfl
       have hfz15_0:=z4 BK101.out 0
       have hfz15_1:=z4 BK101.out 1
       go_wp2_with (first|((with_reducible refine zo (f:=62) rfl ?_);refine goesL_ (some 24) rfl rfl Try.func62 zz84 rfl #[.agg #[.int .u64 a1_0,.int .u64 a1_1],.int .i64 x6_2] rfl zz45 ?_;(with_reducible refine (z1C.calls a1_0 a1_1 x6_2 t106 _ A13.out).mono ?_);rintro e w16 ⟨rfl,hb⟩;refine ⟨_,rfl,?_⟩;have n0_:=z1.mk (z9 (g:=gb101) (o:=.cells #[.int .u64 a1_0,.int .u64 a1_1] 38 (0,0)) zz49 hb);have n1_:=z1.mk (ze zz41 hb);clear BK101;clear HB;have BK101:=n0_;have HB:=n1_;clear n0_ n1_;(try clear hb);(try clear hb2);(try clear hk);(try clear hi)))
       go_ret
       exact ⟨by first|rfl|(simp [zi,zj] <;> rfl)|(simp [*,zi,zj] <;> rfl),by repeat (first|(with_reducible first|exact HB.out|apply zd|apply z3|apply zc|refine za ?_ GE101.out)|exact HB.out)⟩
     rw [if_neg c14] at H
     have c14b0 : (t106 == 1) = false:=beq_eq_false_iff_ne.mpr c14
     have c14b1 : (t106 != 1) = true:=bne_iff_ne.mpr c14
     have H':=z1.mk H
     clear H
     have hcz17_0 : wr.cell? ⟨gb101,0,none⟩ = some (.int .u64 a1_0):=(z5 BK101.out 0).trans rfl
     have hcz17_1 : wr.cell? ⟨gb101,1,none⟩ = some (.int .u64 a1_1):=(z5 BK101.out 1).trans rfl
     have hfz17_0:=z4 BK101.out 0
     have hfz17_1:=z4 BK101.out 1
     go_wp2_with (first|((with_reducible refine zo (f:=62) rfl ?_);refine goesL_ (some 24) rfl rfl Try.func62 zz84 rfl #[.agg #[.int .u64 a1_0,.int .u64 a1_1],.int .i64 x6_2] rfl zz45 ?_;(with_reducible refine (z1C.calls a1_0 a1_1 x6_2 t106 _ A13.out).mono ?_);rintro e w18 ⟨rfl,hb⟩;refine ⟨_,rfl,?_⟩;have n0_:=z1.mk (z9 (g:=gb101) (o:=.cells #[.int .u64 a1_0,.int .u64 a1_1] 38 (0,0)) zz49 hb);have n1_:=z1.mk (ze zz41 hb);clear BK101;clear HB;have BK101:=n0_;have HB:=n1_;clear n0_ n1_;(try clear hb);(try clear hb2);(try clear hk);(try clear hi)))
     go_roundg k2
     case measure=>have:=HJ2.out;have:=HK2.out;omega
     case rel=>exact ⟨(wrap64 (x6_2 + 1)),zz82,H',⟨by have:=HJ2.out;have:=HK2.out;omega⟩,⟨by (with_reducible repeat (first|refine z8 ?_ _|refine zb ?_|refine z7 ?_ _));exact BK101.out⟩,⟨by repeat (first|(with_reducible first|exact HB.out|apply zd|apply z3|apply zc|refine za ?_ GE101.out)|exact HB.out)⟩⟩
end Go.Proofs.Ytnhbdhgbmjcjdaa.P
/- Lists of elements: which are of a level, the same ones, the document's. Own text. -/
namespace Go.Proofs.Ytnhbdhgbmjcjdaa.Sp
open Go.RowKit Go.Proofs.YtnhbdhgbmjcjdaaW.PrintWords Go.Proofs.YtnhbdhgbmjcjdaaW.PrintMore Go.Proofs.Ytnhbdhgbmjcjdaa.P Go.Proofs.Ytnhbdhgbmjcjdaa.Ar Go.Proofs.Ytnhbdhgbmjcjdaa.Tw
set_option linter.unusedVariables false
set_option linter.unusedSimpArgs false
/-- Is there such a level? -/
def LvS (L : Int) : Prop := 0 ≤ L ∧ L ≤ 7
instance (L : Int) : Decidable (LvS L) := by unfold LvS; infer_instance
theorem wide_out {L : Int} (h : ¬ LvS L) : Ev (fun k => z1b.f k L) 0 := by
  unfold z1b.f
  by_cases h0 : L < 0
  · exact Ev.pos h0 (Ev.step (fun k => by rw [z1b.j0]) (Ev.pos rfl (Ev.ret _)))
  · rw [decide_eq_true (show L > 7 by unfold LvS at h; omega)]
    exact Ev.neg h0 (Ev.step (fun k => by rw [z1b.j0]) (Ev.pos rfl (Ev.ret _)))
theorem wide_in {L : Int} (h : LvS L) : ∃ v, v ≠ 0 ∧ Ev (fun k => z1b.f k L) v := by
  obtain ⟨h0, h7⟩ := h
  obtain ⟨l, rfl⟩ := Int.eq_ofNat_of_zero_le h0
  have hstep : ∀ v, Ev (fun k => z1b.j0 k (l : Int) false) v → Ev (fun k => z1b.f k (l : Int)) v := by
    intro v hv
    unfold z1b.f
    rw [decide_eq_false (show ¬ ((l : Int) > 7) by omega)]
    exact Ev.neg (by omega) hv
  by_cases c : (l : Int) ≤ 3
  · exact ⟨1, by decide, hstep 1 (Ev.step (fun k => by rw [z1b.j0]) (Ev.neg (by decide) (Ev.pos c (Ev.ret _))))⟩
  · have e : wrap64 ((l : Int) - 3) = ((l - 3 : Nat) : Int) := by rw [z22 (by omega) (by omega)]; omega
    refine ⟨((2 ^ (l - 3) : Nat) : Int), by have := Nat.two_pow_pos (l - 3); omega, hstep _ (Ev.step (fun k => by rw [z1b.j0]) (Ev.neg (by decide) (Ev.neg c ?_)))⟩
    rw [e]
    exact Ev.pos (Int.natCast_nonneg _) (Ev.ret' (z6r (l - 3) (by omega)))
theorem rdL (l : Nat) (h : l ≤ 7) : rd ([1, 2, 4, 8, 16, 32, 64, 128] : List Int) (l : Int) = ((2 ^ l : Nat) : Int) := by
  have : ∀ m, m ≤ 7 → rd ([1, 2, 4, 8, 16, 32, 64, 128] : List Int) ((m : Nat) : Int) = ((2 ^ m : Nat) : Int) := by decide
  exact this l h
theorem z3t (a n : Nat) (ha : a < 2 ^ 64) (hn : n ≤ 64) : Go.bits .and .u64 (shr .u64 (a : Int) (n : Int)) 1 = if a.testBit n then 1 else 0 := by
  rw [z4v a n hn]
  have hd : a / 2 ^ n < 2 ^ 64 := Nat.lt_of_le_of_lt (Nat.div_le_self _ _) ha
  rw [show (1 : Int) = ((1 : Nat) : Int) from rfl, z2f _ 1 hd (by decide), Nat.and_one_is_mod, Nat.testBit_eq_decide_div_mod_eq]
  by_cases c : a / 2 ^ n % 2 = 1
  · rw [c]; simp
  · rw [show a / 2 ^ n % 2 = 0 by omega]; simp
theorem z6p (x : E) (n : Nat) (hn : n < 128) : z1C.f (hi x) (lo x) (n : Int) = some (if (val x).testBit n then 1 else 0) := by
  have hx1 := z1s x.1
  have hx2 := z1s x.2
  have hQ : Q 6 = 2 ^ 64 := rfl
  rw [hQ] at hx1 hx2
  have hv : val x = 2 ^ 64 * val x.1 + val x.2 := by rw [z1F, hQ, Nat.mul_comm]
  unfold z1C.f
  rw [hv, Nat.testBit_two_pow_mul_add _ hx2]
  unfold hi lo
  by_cases c : n < 64
  · have e : IntKind.u64.wrap (n : Int) = (n : Int) := z2s (by omega) (by omega)
    rw [if_neg (by omega), e, if_pos (Int.natCast_nonneg _), z3t _ _ hx2 (by omega), if_pos c]
  · have e : IntKind.u64.wrap (wrap64 ((n : Int) - 64)) = ((n - 64 : Nat) : Int) := by
      rw [z22 (by omega) (by omega), z2s (by omega) (by omega)]; omega
    rw [if_pos (by omega), e, if_pos (Int.natCast_nonneg _), z3t _ _ hx1 (by omega), if_neg c]
theorem refOf_l0 (x : E) : ∀ (d n : Nat), n + d = 128 → Ev (fun k => zB.l0 k (n : Int) (hi x) (lo x)) (decide (val x < 2 ^ n)) := by
  intro d
  induction d with
  | zero =>
    intro n hn
    have : n = 128 := by omega
    subst this
    have := z1s x; rw [z4c] at this
    rw [decide_eq_true this]
    exact Ev.step (fun k => by rw [zB.l0]) (Ev.neg (by decide) (Ev.ret _))
  | succ d ih =>
    intro n hn
    have hn' : n < 128 := by omega
    refine Ev.step (fun k => by rw [zB.l0]) (Ev.pos (by omega) (Ev.bnd0 (z6p x n hn') ?_))
    simp only [z1G hn' (show 128 ≤ 4611686018427387904 by decide)]
    cases c : (val x).testBit n with
    | true =>
      refine Ev.pos (by simp) (Ev.ret' ?_)
      symm; rw [decide_eq_false_iff_not]
      intro h; rw [Nat.testBit_lt_two_pow h] at c; cases c
    | false =>
      refine Ev.neg (by simp) ?_
      have hih := ih (n + 1) (by omega)
      have e : decide (val x < 2 ^ (n + 1)) = decide (val x < 2 ^ n) := by
        rw [decide_eq_decide]
        constructor
        · intro h
          apply Nat.lt_pow_two_of_testBit
          intro i hi
          by_cases e : i = n
          · rw [e]; exact c
          · exact Nat.testBit_lt_two_pow (Nat.lt_of_lt_of_le h (Nat.pow_le_pow_right (by decide) (by omega)))
        · intro h; exact Nat.lt_of_lt_of_le h (Nat.pow_le_pow_right (by decide) (by omega))
      rw [← e]; exact hih
theorem refOf_ev (L : Int) (x : E) : Ev (fun k => zB.f k L (hi x) (lo x)) (decide (OfS L x)) := by
  unfold zB.f
  refine Ev.bnd0 (a := ([1, 2, 4, 8, 16, 32, 64, 128] : List Int)) rfl ?_
  by_cases h0 : L < 0
  · refine Ev.pos h0 (Ev.step (fun k => by rw [zB.j0]) (Ev.pos rfl (Ev.ret' ?_)))
    symm; rw [decide_eq_false_iff_not]; rintro ⟨h, _⟩; omega
  refine Ev.neg h0 ?_
  by_cases h7 : L > 7
  · rw [decide_eq_true h7]
    refine Ev.step (fun k => by rw [zB.j0]) (Ev.pos rfl (Ev.ret' ?_))
    symm; rw [decide_eq_false_iff_not]; rintro ⟨_, h, _⟩; omega
  rw [decide_eq_false h7]
  obtain ⟨l, rfl⟩ := Int.eq_ofNat_of_zero_le (show 0 ≤ L by omega)
  refine Ev.step (fun k => by rw [zB.j0]) (Ev.neg (by decide) (Ev.pos (Int.natCast_nonneg _) (Ev.pos (by simp; omega) ?_)))
  rw [rdL l (by omega)]
  have hp : 2 ^ l ≤ 128 := Nat.pow_le_pow_right (n := 2) (by decide) (show l ≤ 7 by omega)
  have := refOf_l0 x (128 - 2 ^ l) (2 ^ l) (by omega)
  have e : decide (val x < 2 ^ 2 ^ l) = decide (OfS (l : Int) x) := by
    rw [decide_eq_decide]; unfold OfS InL Q; rw [Int.toNat_natCast]
    exact ⟨fun h => ⟨by omega, by omega, h⟩, fun h => h.2.2⟩
  rw [← e]; exact this
/-- All of a level. -/
def AllS (L : Int) (X : List E) : Prop := ∀ x ∈ X, OfS L x
instance (L : Int) (X : List E) : Decidable (AllS L X) := by unfold AllS; infer_instance
theorem allS_drop {L : Int} {X : List E} {i : Nat} (h : i < X.length) : AllS L (X.drop i) ↔ OfS L (X.getD i 0) ∧ AllS L (X.drop (i + 1)) := by
  rw [List.drop_eq_getElem_cons h]
  have : X.getD i 0 = X[i] := by rw [List.getD_eq_getElem?_getD, List.getElem?_eq_getElem h]; rfl
  rw [this]
  exact List.forall_mem_cons
theorem z2n {α β : Type} (f : α → β) (X : List α) (d : α) (i : Nat) (h : i < X.length) : (X.take (i + 1)).map f = (X.take i).map f ++ [f (X.getD i d)] := by
  rw [List.take_succ_eq_append_getElem h, List.map_append]
  have : X.getD i d = X[i] := by rw [List.getD_eq_getElem?_getD, List.getElem?_eq_getElem h]; rfl
  rw [this]; rfl
theorem Ref_l0 (X : List E) (hX : X.length ≤ 1000000) : ∀ (d i : Nat), i + d = X.length → Ev (fun k => zg.l0 k (X.map toS) ((X.take i).map toR) (i : Int)) (X.map toR) := by
  intro d
  induction d with
  | zero =>
    intro i hi
    refine Ev.step (fun k => by rw [zg.l0]) (Ev.neg (by rw [List.length_map]; omega) (Ev.ret' ?_))
    rw [List.take_of_length_le (by omega)]
  | succ d ih =>
    intro i hi
    have hi' : i < X.length := by omega
    refine Ev.step (fun k => by rw [zg.l0]) (Ev.pos (by rw [List.length_map]; omega) (Ev.pos (Int.natCast_nonneg _) (Ev.pos (by rw [List.length_map, List.length_take]; omega) ?_)))
    simp only [rdS, z45, z46, z1G hi' (show X.length ≤ 4611686018427387904 by omega)]
    have hih := ih (i + 1) (by omega)
    rw [z2n toR X 0 i hi'] at hih
    exact hih
theorem z5R (X : List E) (hX : X.length ≤ 1000000) : Ev (fun k => zg.f k (X.map toS)) (X.map toR) := Ref_l0 X hX X.length 0 (by omega)
theorem Same_l0 (X Y : List E) (hl : X.length = Y.length) (hX : X.length ≤ 1000000) : ∀ (d i : Nat), i + d = X.length → (∀ j, j < i → X.getD j 0 = Y.getD j 0) → Ev (fun k => zh.l0 k (X.map toS) (Y.map toR) (i : Int)) (decide (X = Y)) := by
  intro d
  induction d with
  | zero =>
    intro i hi h
    refine Ev.step (fun k => by rw [zh.l0]) (Ev.neg (by rw [List.length_map]; omega) (Ev.ret' ?_))
    symm; rw [decide_eq_true_eq]
    apply List.ext_getElem hl
    intro j h1 h2
    have := h j (by omega)
    simpa [List.getD_eq_getElem?_getD, h1, h2] using this
  | succ d ih =>
    intro i hid h
    have hi' : i < X.length := by omega
    refine Ev.step (fun k => by rw [zh.l0]) (Ev.pos (by rw [List.length_map]; omega) (Ev.pos (Int.natCast_nonneg _) (Ev.pos (by rw [List.length_map]; omega) ?_)))
    simp only [rdS, rdR, z45, z46, z4P, z4Q, z1G hi' (show X.length ≤ 4611686018427387904 by omega)]
    by_cases c : X.getD i 0 = Y.getD i 0
    · refine Ev.neg (by rw [c]; simp) (ih (i + 1) (by omega) (fun j hj => ?_))
      by_cases e : j = i
      · rw [e]; exact c
      · exact h j (by omega)
    · refine Ev.pos ?_ (Ev.ret' ?_)
      · simp only [Bool.or_eq_true, Bool.not_eq_true', beq_eq_false_iff_ne]
        by_cases e : hi (X.getD i 0) = hi (Y.getD i 0)
        · right; intro e2; exact c (z5c e e2)
        · left; exact e
      · symm; rw [decide_eq_false_iff_not]
        rintro rfl; exact c rfl
theorem Same_ev (X Y : List E) (hX : X.length ≤ 1000000) : Ev (fun k => zh.f k (X.map toS) (Y.map toR)) (decide (X = Y)) := by
  unfold zh.f
  by_cases h : X.length = Y.length
  · exact Ev.pos (by rw [List.length_map, List.length_map]; omega) (Same_l0 X Y h hX X.length 0 (by omega) (fun j hj => by omega))
  · refine Ev.neg (by rw [List.length_map, List.length_map]; omega) (Ev.ret' ?_)
    symm; rw [decide_eq_false_iff_not]
    rintro rfl; exact h rfl
/-- The same element? as the program asks. -/
theorem eq_pair (x y : E) : (hi x == hi y && (lo x == lo y)) = decide (x = y) := by
  rw [Bool.eq_iff_iff, Bool.and_eq_true, beq_iff_eq, beq_iff_eq, decide_eq_true_eq]
  exact ⟨fun h => z5c h.1 h.2, fun h => by rw [h]; exact ⟨rfl, rfl⟩⟩
theorem eq_none (x : E) : (hi x == 0 && (lo x == 0)) = decide (x = 0) := by
  rw [← eq_pair, z1V, z1W]
end Go.Proofs.Ytnhbdhgbmjcjdaa.Sp
/- The bits of an element as the program tells them. Own text. -/
namespace Go.Proofs.Ytnhbdhgbmjcjdaa.Sp
open Go.RowKit Go.Proofs.YtnhbdhgbmjcjdaaW.PrintWords Go.Proofs.YtnhbdhgbmjcjdaaW.PrintMore Go.Proofs.Ytnhbdhgbmjcjdaa.P Go.Proofs.Ytnhbdhgbmjcjdaa.Ar Go.Proofs.Ytnhbdhgbmjcjdaa.Tw
set_option linter.unusedVariables false
theorem z3J (n : Nat) (hn : n < 128) : Ev (fun k => zX.f k (n : Int)) (hi (bitE n), lo (bitE n)) := by
  obtain ⟨h1, h2⟩ := z4X hn
  unfold zX.f
  refine Ev.pos (by omega) ?_
  by_cases c : n < 64
  · rw [if_pos c] at h1 h2
    rw [h1, h2, decide_eq_true (show (n : Int) < 64 by omega)]
    refine Ev.step (fun k => by rw [zX.j0]) (Ev.pos rfl (Ev.pos (Int.natCast_nonneg _) (Ev.ret' ?_)))
    rw [z2G n (by omega)]
  · rw [if_neg c] at h1 h2
    rw [h1, h2, decide_eq_false (show ¬ (n : Int) < 64 by omega)]
    have e : wrap64 ((n : Int) - 64) = ((n - 64 : Nat) : Int) := by rw [z22 (by omega) (by omega)]; omega
    refine Ev.step (fun k => by rw [zX.j0]) (Ev.neg (by decide) (Ev.pos (by omega) (Ev.pos (by omega) ?_)))
    rw [e]
    exact Ev.pos (Int.natCast_nonneg _) (Ev.ret' (by rw [z2G (n - 64) (by omega)]))
def bitsL (x : E) (n : Nat) : List Bool := (List.range n).map fun i => (val x).testBit i
end Go.Proofs.Ytnhbdhgbmjcjdaa.Sp
/- Pairs of elements: what is on the left, on the right, and the document's pairs. Own text. -/
namespace Go.Proofs.Ytnhbdhgbmjcjdaa.Sp
open Go.RowKit Go.Proofs.YtnhbdhgbmjcjdaaW.PrintWords Go.Proofs.YtnhbdhgbmjcjdaaW.PrintMore Go.Proofs.Ytnhbdhgbmjcjdaa.P Go.Proofs.Ytnhbdhgbmjcjdaa.Ar Go.Proofs.Ytnhbdhgbmjcjdaa.Tw
set_option linter.unusedVariables false
/-- The pair of x and y: y beside each bit that x has. -/
def pick (b : Bool) (y : E) : E := if b then y else 0
theorem z1y (y : E) : pick true y = y := if_pos rfl
theorem z1l (y : E) : pick false y = 0 := if_neg Bool.false_ne_true
def pairX (n : Nat) (x y : E) : List E := (List.range n).map fun i => pick ((val x).testBit i) y
theorem z2F (n : Nat) (x y : E) : (pairX n x y).length = n := by simp [pairX]
theorem z3v {α : Type} (f : Nat → α) (d : α) (n i : Nat) (h : i < n) : ((List.range n).map f).getD i d = f i := by
  rw [List.getD_eq_getElem?_getD, List.getElem?_map, List.getElem?_range h]; rfl
theorem z3A {α : Type} (f : Nat → α) (n : Nat) : (List.range (n + 1)).map f = (List.range n).map f ++ [f n] := by
  rw [List.range_succ, List.map_append]; rfl
theorem z5C (n : Nat) (x y : E) (i : Nat) (h : i < n) : (pairX n x y).getD i 0 = pick ((val x).testBit i) y := z3v (fun i => pick ((val x).testBit i) y) 0 n i h
theorem pairX_succ (n : Nat) (x y : E) : pairX (n + 1) x y = pairX n x y ++ [pick ((val x).testBit n) y] := z3A _ n
theorem w128 {l : Nat} (hl : l ≤ 7) : 2 ^ l ≤ 128 := Nat.pow_le_pow_right (n := 2) (by decide) hl
theorem lv_of {L : Int} {x : E} (h : OfS L x) : LvS L := ⟨h.1, h.2.1⟩
theorem rep_zero (n : Nat) : List.replicate n z35 = (List.replicate n (0 : E)).map toS := by rw [List.map_replicate, z5k]
/-- What stands on the left: x beside 1. -/
def leftO (L : Int) (x : E) : List E := if OfS L x then pairX (2 ^ L.toNat) x 1 else []
def rightO (L : Int) (x : E) : List E := if OfS L x then pairX (2 ^ L.toNat) 1 x else []
theorem one_bit (i : Nat) : (val (1 : E)).testBit i = decide (i = 0) := by
  rw [z2r, show (1 : Nat) = 2 ^ 0 from rfl, Nat.testBit_two_pow]
  simp [eq_comm]
theorem pairX_one (n : Nat) (x : E) (hn : 0 < n) : pairX n 1 x = (List.replicate n (0 : E)).set 0 x := by
  apply List.ext_getElem
  · rw [z2F]; simp
  · intro i h1 h2
    rw [z2F] at h1
    have e1 : (pairX n 1 x)[i] = (pairX n 1 x).getD i 0 := by rw [List.getD_eq_getElem?_getD, List.getElem?_eq_getElem (by rw [z2F]; exact h1)]; rfl
    rw [e1, z5C n 1 x i h1, one_bit, List.getElem_set]
    by_cases c : i = 0
    · subst c; simp [z1y]
    · rw [decide_eq_false c, z1l, if_neg (fun h => c h.symm), List.getElem_replicate]
end Go.Proofs.Ytnhbdhgbmjcjdaa.Sp
/- Sums of elements, weights and values of tables; lists of elements. Own text; nothing of the program in it. -/
namespace Go.Proofs.Ytnhbdhgbmjcjdaa.Sp
open Go.RowKit Go.Proofs.YtnhbdhgbmjcjdaaW.PrintWords Go.Proofs.YtnhbdhgbmjcjdaaW.PrintMore Go.Proofs.Ytnhbdhgbmjcjdaa.P Go.Proofs.Ytnhbdhgbmjcjdaa.Ar Go.Proofs.Ytnhbdhgbmjcjdaa.Tw
set_option linter.unusedVariables false
set_option linter.unusedSimpArgs false
/-- Sums. -/
def sumN (f : Nat → E) : Nat → E
  | 0 => 0
  | n + 1 => sumN f n + f n
theorem z1u {f g : Nat → E} : ∀ n, (∀ i, i < n → f i = g i) → sumN f n = sumN g n
  | 0, _ => rfl
  | n + 1, h => by rw [sumN, sumN, z1u n (fun i hi => h i (by omega)), h n (by omega)]
theorem z2L (f g : Nat → E) : ∀ n, sumN (fun i => f i + g i) n = sumN f n + sumN g n
  | 0 => (add_zero _).symm
  | n + 1 => by
    rw [sumN, sumN, sumN, z2L f g n]
    simp only [add_assoc, z1M]
theorem z5j (c : E) (f : Nat → E) : ∀ n, sumN (fun i => c * f i) n = c * sumN f n
  | 0 => (mul_zero _).symm
  | n + 1 => by rw [sumN, sumN, z5j c f n, mul_add]
theorem z3I : ∀ n, sumN (fun _ => (0 : E)) n = 0
  | 0 => rfl
  | n + 1 => by rw [sumN, z3I n, add_zero]
theorem z3F (f : Nat → E) : ∀ n, sumN f (2 * n) = sumN (fun i => f (2 * i) + f (2 * i + 1)) n
  | 0 => rfl
  | n + 1 => by
    rw [show 2 * (n + 1) = 2 * n + 1 + 1 by omega, sumN, sumN, sumN, z3F f n, add_assoc]
theorem z44 (f : Nat → E) (m : Nat) : ∀ n, sumN f (m + n) = sumN f m + sumN (fun i => f (m + i)) n
  | 0 => (add_zero _).symm
  | n + 1 => by rw [← Nat.add_assoc, sumN, sumN, z44 f m n, add_assoc]
/-- A corner's weight at a point. -/
def weight : List E → Nat → E
  | [], _ => 1
  | p :: ps, i => (if i % 2 = 1 then p else 1 + p) * weight ps (i / 2)
/-- A table's value at a point. -/
def value (X P : List E) : E := sumN (fun i => X.getD i 0 * weight P i) X.length
/-- A table bound in its first variable. -/
def first (r : E) (X : List E) : List E := (List.range (X.length / 2)).map fun i => X.getD (2 * i) 0 + r * (X.getD (2 * i) 0 + X.getD (2 * i + 1) 0)
def firsts : List E → List E → List E
  | [], X => X
  | r :: rs, X => firsts rs (first r X)
theorem z2B (r : E) (X : List E) : (first r X).length = X.length / 2 := by simp [first]
theorem z5v (r : E) (X : List E) (i : Nat) (h : i < X.length / 2) : (first r X).getD i 0 = X.getD (2 * i) 0 + r * (X.getD (2 * i) 0 + X.getD (2 * i + 1) 0) := by
  rw [List.getD_eq_getElem?_getD]; simp [first, h]
theorem z5s (a b r : E) : a + r * (a + b) = (1 + r) * a + r * b := by
  rw [add_mul, one_mul, mul_add, add_assoc]
theorem z52 (X : List E) (r : E) (P : List E) (h : X.length = 2 * (X.length / 2)) : value X (r :: P) = value (first r X) P := by
  unfold value
  rw [z2B]
  conv => lhs; rw [h]
  rw [z3F]
  apply z1u
  intro i hi
  rw [z5v r X i hi, weight, weight, if_neg (by omega), if_pos (by omega), show 2 * i / 2 = i by omega, show (2 * i + 1) / 2 = i by omega, z5s]
  rw [← mul_assoc, ← mul_assoc, mul_comm (X.getD (2 * i) 0), mul_comm (X.getD (2 * i + 1) 0), ← add_mul]
theorem pow_len {X : List E} {k : Nat} (h : X.length = 2 ^ (k + 1)) : X.length = 2 * (X.length / 2) := by rw [h, Nat.pow_succ]; omega
theorem z2W : ∀ (R X : List E) (k : Nat), X.length = 2 ^ k → R.length ≤ k → (firsts R X).length = 2 ^ (k - R.length)
  | [], X, k, h, _ => by rw [firsts, h]; rfl
  | r :: rs, X, k, h, hk => by
    rw [List.length_cons] at hk
    obtain ⟨k', rfl⟩ : ∃ k', k = k' + 1 := ⟨k - 1, by omega⟩
    rw [firsts, z2W rs (first r X) k' (by rw [z2B, h, Nat.pow_succ]; omega) (by omega), List.length_cons]
    congr 1; omega
theorem z3f : ∀ (R X P : List E) (k : Nat), X.length = 2 ^ k → R.length ≤ k → value X (R ++ P) = value (firsts R X) P
  | [], X, P, k, _, _ => rfl
  | r :: rs, X, P, k, h, hk => by
    rw [List.length_cons] at hk
    obtain ⟨k', rfl⟩ : ∃ k', k = k' + 1 := ⟨k - 1, by omega⟩
    rw [List.cons_append, z52 X r (rs ++ P) (pow_len h), firsts]
    exact z3f rs (first r X) P k' (by rw [z2B, h, Nat.pow_succ]; omega) (by omega)
theorem z6w {X : List E} (h : X.length = 1) : value X [] = X.getD 0 0 := by
  unfold value; rw [h, sumN, sumN, zero_add, weight, mul_one]
theorem value_eq (X P : List E) (h : X.length = 2 ^ P.length) : value X P = (firsts P X).getD 0 0 := by
  have := z3f P X [] P.length h (Nat.le_refl _)
  rw [List.append_nil] at this
  rw [this, z6w (by rw [z2W P X P.length h (Nat.le_refl _), Nat.sub_self, Nat.pow_zero])]

/-- k of 2^k, as both tell it. -/
theorem map_set {α β : Type} (f : α → β) (X : List α) (i : Nat) (x : α) : (X.map f).set i (f x) = (X.set i x).map f := by rw [List.map_set]
theorem toS_mk (x : E) : (⟨hi x, lo x⟩ : S35) = toS x := rfl
theorem toR_mk (x : E) : (⟨hi x, lo x⟩ : S38) = toR x := rfl
theorem z4g {X : List E} {i : Nat} (h : i < X.length) (x : E) : (X.set i x).getD i 0 = x := by
  rw [List.getD_eq_getElem?_getD, List.getElem?_set_self h]; rfl
theorem getD_set_ne {X : List E} {i j : Nat} (h : i ≠ j) (x : E) : (X.set i x).getD j 0 = X.getD j 0 := by
  rw [List.getD_eq_getElem?_getD, List.getD_eq_getElem?_getD, List.getElem?_set_ne h]
theorem z3g {X Y : List E} (hl : X.length = Y.length) (h : ∀ i, i < X.length → X.getD i 0 = Y.getD i 0) : X = Y := by
  apply List.ext_getElem hl
  intro j h1 h2
  have := h j h1
  simpa [List.getD_eq_getElem?_getD, h1, h2] using this
theorem getD_take {X : List E} {i m : Nat} (h : i < m) : (X.take m).getD i 0 = X.getD i 0 := by
  rw [List.getD_eq_getElem?_getD, List.getD_eq_getElem?_getD, List.getElem?_take_of_lt h]
theorem z3s {l : Nat} {X : List E} (h : AllS (l : Int) X) (i : Nat) : InL l (X.getD i 0) := by
  rw [List.getD_eq_getElem?_getD]
  by_cases c : i < X.length
  · rw [List.getElem?_eq_getElem c]
    have := (h _ (List.getElem_mem c)).2.2
    rw [Int.toNat_natCast] at this; exact this
  · rw [List.getElem?_eq_none (by omega)]; exact z4l l
theorem allS_first {l : Nat} (hl : l ≤ 7) {X : List E} {r : E} (hX : AllS (l : Int) X) (hr : InL l r) : AllS (l : Int) (first r X) := by
  intro x hx
  unfold first at hx
  rw [List.mem_map] at hx
  obtain ⟨i, _, rfl⟩ := hx
  refine ⟨by omega, by omega, ?_⟩
  rw [Int.toNat_natCast]
  exact z4i (z3s hX _) (z4k hl hr (z4i (z3s hX _) (z3s hX _)))
theorem half_len (n : Nat) (h : n ≤ 1000000) : wrap64 ((n : Int) / 2) = ((n / 2 : Nat) : Int) := by rw [z22 (by omega) (by omega)]; omega
theorem w64_dbl {i : Nat} (h : i ≤ 1000000) : wrap64 (2 * (i : Int)) = ((2 * i : Nat) : Int) := by rw [z22 (by omega) (by omega)]; omega
end Go.Proofs.Ytnhbdhgbmjcjdaa.Sp

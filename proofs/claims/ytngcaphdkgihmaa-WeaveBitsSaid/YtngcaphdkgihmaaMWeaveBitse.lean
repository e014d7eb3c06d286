/- WeaveBits: bits gathered are the bits of elements, or the error is told; for all levels, up to 300 bits. Own text. -/
import Derived.Test.YtngcaphdkgihmaaRows
import Derived.WalkKit
import Derived.ProofKit
import Derived.OpenShut
import Derived.ShutString
import Derived.ChangeOld
import Derived.Below
import Derived.SizedLaws
import Derived.Carry
import Derived.Test.YtngcaphdkgihmaaMWeaveBitsb
import Derived.Test.YtngcaphdkgihmaaMWeaveBitsc
import Derived.Test.YtngcaphdkgihmaaMWeaveBitsd
namespace Go.Proofs.Ytngcaphdkgihmaa.P
open Go.RowKit Go.Proofs.YtngcaphdkgihmaaW.PrintWords Go.Proofs.YtngcaphdkgihmaaW.PrintLast Go.Proofs.YtngcaphdkgihmaaW.PrintMore
attribute [local go_sem] zU zW z15 z16 zQ zR zV zX   -- for this text's walks alone
set_option linter.unusedVariables false
set_option linter.unusedSimpArgs false
mutual
def zh.l0 : Nat → Int → Int → Int → Int → Int → Int → Int → Option (Int × Int)
 | 0,_,_,_,_,_,_,_=>none
 | k + 1,x6,x102000,x102001,x103000,x103001,x105000,x105001=>if x6 < 128 then ((zt.f k x103000 x103001 x6).bind fun t105=>(if t105 = true then (zh.l1 k x6 0 x102000 x102001 x103000 x103001 x105000 x105001 x102000 x102001) else (zh.l0 k (wrap64 (x6 + 1)) x102000 x102001 x103000 x103001 x105000 x105001))) else (some (x105000,x105001))
def zh.l1 : Nat → Int → Int → Int → Int → Int → Int → Int → Int → Int → Int → Option (Int × Int)
 | 0,_,_,_,_,_,_,_,_,_,_=>none
 | k + 1,x6,x8,x102000,x102001,x103000,x103001,x105000,x105001,x107000,x107001=>if x8 < 7 then (if 0 ≤ (IntKind.u64.wrap (x8)) then (if (Go.bits .and .i64 (shr .i64 x6 (IntKind.u64.wrap (x8))) 1) = 1 then ((zx.f k x8 x107000 x107001).bind fun bt107=>(zh.l1 k x6 (wrap64 (x8 + 1)) x102000 x102001 x103000 x103001 x105000 x105001 bt107.1 bt107.2)) else (zh.l1 k x6 (wrap64 (x8 + 1)) x102000 x102001 x103000 x103001 x105000 x105001 x107000 x107001)) else (none)) else ((zM.f x105000 x105001 x107000 x107001).bind fun bt109=>(zh.l0 k (wrap64 (x6 + 1)) x102000 x102001 x103000 x103001 bt109.1 bt109.2))
end
def zh.f (k : Nat) (a0_0 : Int) (a0_1 : Int) (a1_0 : Int) (a1_1 : Int) : Option (Int × Int):=zh.l0 k 0 a0_0 a0_1 a1_0 a1_1 0 0
theorem zh.z12 : ∀ k,(∀ y0 y1 y2 y3 y4 y5 y6,LeO (zh.l0 k y0 y1 y2 y3 y4 y5 y6) (zh.l0 (k + 1) y0 y1 y2 y3 y4 y5 y6)) ∧ (∀ y0 y1 y2 y3 y4 y5 y6 y7 y8 y9,LeO (zh.l1 k y0 y1 y2 y3 y4 y5 y6 y7 y8 y9) (zh.l1 (k + 1) y0 y1 y2 y3 y4 y5 y6 y7 y8 y9))
 | 0=>⟨fun _ _ _ _ _ _ _ r h=>by simp [zh.l0] at h,fun _ _ _ _ _ _ _ _ _ _ r h=>by simp [zh.l1] at h⟩
 | k + 1=>by
  obtain ⟨ih0,ih1⟩:=zh.z12 k
  refine ⟨?_,?_⟩
  · intro y0 y1 y2 y3 y4 y5 y6
    unfold zh.l0
    repeat' first
    | (with_reducible exact ih0 _ _ _ _ _ _ _)
    | (with_reducible exact ih1 _ _ _ _ _ _ _ _ _ _)
    | (with_reducible exact zt.mono _ _ _ _)
    | (with_reducible exact zx.mono _ _ _ _)
    | (with_reducible exact LeO.refl _)
    | (with_reducible exact LeO.none _)
    | (with_reducible refine LeO.ite ?_ ?_)
    | (with_reducible refine LeO.bind ?_ (fun _=>?_))
    | exact ih0 _ _ _ _ _ _ _
    | exact ih1 _ _ _ _ _ _ _ _ _ _
    | exact zt.mono _ _ _ _
    | exact zx.mono _ _ _ _
    | exact LeO.none _
    | refine LeO.ite ?_ ?_
    | refine LeO.bind ?_ (fun _=>?_)
  · intro y0 y1 y2 y3 y4 y5 y6 y7 y8 y9
    unfold zh.l1
    repeat' first
    | (with_reducible exact ih0 _ _ _ _ _ _ _)
    | (with_reducible exact ih1 _ _ _ _ _ _ _ _ _ _)
    | (with_reducible exact zt.mono _ _ _ _)
    | (with_reducible exact zx.mono _ _ _ _)
    | (with_reducible exact LeO.refl _)
    | (with_reducible exact LeO.none _)
    | (with_reducible refine LeO.ite ?_ ?_)
    | (with_reducible refine LeO.bind ?_ (fun _=>?_))
    | exact ih0 _ _ _ _ _ _ _
    | exact ih1 _ _ _ _ _ _ _ _ _ _
    | exact zt.mono _ _ _ _
    | exact zx.mono _ _ _ _
    | exact LeO.none _
    | refine LeO.ite ?_ ?_
    | refine LeO.bind ?_ (fun _=>?_)
theorem zh.mono : ∀ a0 a1 a2 a3 k,LeO (zh.f k a0 a1 a2 a3) (zh.f (k + 1) a0 a1 a2 a3):=by
 intro a0 a1 a2 a3 k
 obtain ⟨ih0,ih1⟩:=zh.z12 k
 unfold zh.f
 repeat' first
  | (with_reducible exact ih0 _ _ _ _ _ _ _)
  | (with_reducible exact ih1 _ _ _ _ _ _ _ _ _ _)
  | (with_reducible exact zt.mono _ _ _ _)
  | (with_reducible exact zx.mono _ _ _ _)
  | (with_reducible exact LeO.refl _)
  | (with_reducible exact LeO.none _)
  | (with_reducible refine LeO.ite ?_ ?_)
  | (with_reducible refine LeO.bind ?_ (fun _=>?_))
  | exact ih0 _ _ _ _ _ _ _
  | exact ih1 _ _ _ _ _ _ _ _ _ _
  | exact zt.mono _ _ _ _
  | exact zx.mono _ _ _ _
  | exact LeO.none _
  | refine LeO.ite ?_ ?_
  | refine LeO.bind ?_ (fun _=>?_)
set_option maxHeartbeats 8000000 in
set_option maxRecDepth 100000 in
theorem zh.calls (k : Nat) (a0_0 : Int) (a0_1 : Int) (a1_0 : Int) (a1_1 : Int) (r1 : Int) (r2 : Int) (w : World) (h : zh.f k a0_0 a0_1 a1_0 a1_1 = some (r1,r2)) :
 Calls Try.prog 79 #[.agg #[.int .u64 a0_0,.int .u64 a0_1],.agg #[.int .u64 a1_0,.int .u64 a1_1]] w fun e w'=>e = .returned (.agg #[.int .u64 r1,.int .u64 r2]) ∧ Below w.heap.size w w':=by
 have hu61:=Try.underlying61
 have HB:=z3.mk (Below.refl w.heap.size w)
 have H : (zh.l0 k 0 a0_0 a0_1 a1_0 a1_1 0 0) = some (r1,r2):=h
 clear h
 have H':=z3.mk H
 clear H
 go_enter Try.func79,Try.ntmps79
 go_wp2_with (first|((with_reducible refine zA (N:=2) rfl ?_);refine zB ?hg (N:=2) ?hd (cs:=#[.int .u64 a0_0,.int .u64 a0_1]) (t:=61) ?hr ?_;(case hd=>rfl);(case hg=>rfl);(case hr=>first|(go_simp;done)|(go_simp;rfl));intro gb101 hg w3 hbox hb;have n0_:=z3.mk (za (by repeat (first|(with_reducible first|exact HB.out|apply z2|apply z0|apply z1)|exact HB.out)) hb);have n1_:=z3.mk (hbox);have n2_:=z3.mk ((by rw [hg];exact (zc (by repeat (first|(with_reducible first|exact HB.out|apply z2|apply z0|apply z1)|exact HB.out))) : w.heap.size ≤ gb101));have n3_:=z3.mk ((by rw [hg];exact (zc (by repeat (first|(with_reducible first|exact HB.out|apply z2|apply z0|apply z1)|exact HB.out))) : w.heap.size ≤ gb101));clear HB;have HB:=n0_;have BK101:=n1_;have GW101:=n2_;have GE101:=n3_;clear n0_ n1_ n2_ n3_;clear hb hbox hg)|((with_reducible refine zA (N:=3) rfl ?_);refine zB ?hg (N:=3) ?hd (cs:=#[.int .u64 a1_0,.int .u64 a1_1]) (t:=61) ?hr ?_;(case hd=>rfl);(case hg=>rfl);(case hr=>first|(go_simp;done)|(go_simp;rfl));intro gb102 hg w4 hbox hb;have n0_:=z3.mk (zk (g:=gb101) (o:=.cells #[.int .u64 a0_0,.int .u64 a0_1] 61 (0,0)) (by (with_reducible repeat (first|refine z5 ?_ _|refine z7 ?_|refine z4 ?_ _));exact BK101.out) hb);have n1_:=z3.mk (za (by repeat (first|(with_reducible first|exact HB.out|apply z2|apply z0|apply z1|refine z6 ?_ GE101.out)|exact HB.out)) hb);have n2_:=z3.mk (hbox);have n3_:=z3.mk ((by rw [hg];exact (zc (by repeat (first|(with_reducible first|exact HB.out|apply z2|apply z0|apply z1|refine z6 ?_ GE101.out)|exact HB.out))) : w.heap.size ≤ gb102));have n4_:=z3.mk ((by rw [hg];exact (zc (by repeat (first|(with_reducible first|exact HB.out|apply z2|apply z0|apply z1|refine z6 ?_ GE101.out)|exact HB.out))) : w.heap.size ≤ gb102));have n5_:=z3.mk ((by rw [hg];exact Nat.ne_of_lt (zS (g:=gb101) (o:=.cells #[.int .u64 a0_0,.int .u64 a0_1] 61 (0,0)) (by (with_reducible repeat (first|refine z5 ?_ _|refine z7 ?_|refine z4 ?_ _));exact BK101.out)) : gb101 ≠ gb102));have n6_:=z3.mk ((by rw [hg];exact Nat.ne_of_gt (zS (g:=gb101) (o:=.cells #[.int .u64 a0_0,.int .u64 a0_1] 61 (0,0)) (by (with_reducible repeat (first|refine z5 ?_ _|refine z7 ?_|refine z4 ?_ _));exact BK101.out)) : gb102 ≠ gb101));clear BK101;clear HB;have BK101:=n0_;have HB:=n1_;have BK102:=n2_;have GW102:=n3_;have GE102:=n4_;have NB101_102:=n5_;have NB102_101:=n6_;clear n0_ n1_ n2_ n3_ n4_ n5_ n6_;clear hb hbox hg)|((with_reducible refine zA (N:=4) rfl ?_);refine zB ?hg (N:=4) ?hd (cs:=#[.int .u64 0,.int .u64 0]) (t:=61) ?hr ?_;(case hd=>rfl);(case hg=>rfl);(case hr=>first|(go_simp;done)|(go_simp;rfl));intro gb103 hg w5 hbox hb;have n0_:=z3.mk (zk (g:=gb101) (o:=.cells #[.int .u64 a0_0,.int .u64 a0_1] 61 (0,0)) (by (with_reducible repeat (first|refine z5 ?_ _|refine z7 ?_|refine z4 ?_ _));exact BK101.out) hb);have n1_:=z3.mk (zk (g:=gb102) (o:=.cells #[.int .u64 a1_0,.int .u64 a1_1] 61 (0,0)) (by (with_reducible repeat (first|refine z5 ?_ _|refine z7 ?_|refine z4 ?_ _));exact BK102.out) hb);have n2_:=z3.mk (za (by repeat (first|(with_reducible first|exact HB.out|apply z2|apply z0|apply z1|refine z6 ?_ GE101.out|refine z6 ?_ GE102.out)|exact HB.out)) hb);have n3_:=z3.mk (hbox);have n4_:=z3.mk ((by rw [hg];exact (zc (by repeat (first|(with_reducible first|exact HB.out|apply z2|apply z0|apply z1|refine z6 ?_ GE101.out|refine z6 ?_ GE102.out)|exact HB.out))) : w.heap.size ≤ gb103));have n5_:=z3.mk ((by rw [hg];exact (zc (by repeat (first|(with_reducible first|exact HB.out|apply z2|apply z0|apply z1|refine z6 ?_ GE101.out|refine z6 ?_ GE102.out)|exact HB.out))) : w.heap.size ≤ gb103));have n6_:=z3.mk ((by rw [hg];exact Nat.ne_of_lt (zS (g:=gb101) (o:=.cells #[.int .u64 a0_0,.int .u64 a0_1] 61 (0,0)) (by (with_reducible repeat (first|refine z5 ?_ _|refine z7 ?_|refine z4 ?_ _));exact BK101.out)) : gb101 ≠ gb103));have n7_:=z3.mk ((by rw [hg];exact Nat.ne_of_gt (zS (g:=gb101) (o:=.cells #[.int .u64 a0_0,.int .u64 a0_1] 61 (0,0)) (by (with_reducible repeat (first|refine z5 ?_ _|refine z7 ?_|refine z4 ?_ _));exact BK101.out)) : gb103 ≠ gb101));have n8_:=z3.mk ((by rw [hg];exact Nat.ne_of_lt (zS (g:=gb102) (o:=.cells #[.int .u64 a1_0,.int .u64 a1_1] 61 (0,0)) (by (with_reducible repeat (first|refine z5 ?_ _|refine z7 ?_|refine z4 ?_ _));exact BK102.out)) : gb102 ≠ gb103));have n9_:=z3.mk ((by rw [hg];exact Nat.ne_of_gt (zS (g:=gb102) (o:=.cells #[.int .u64 a1_0,.int .u64 a1_1] 61 (0,0)) (by (with_reducible repeat (first|refine z5 ?_ _|refine z7 ?_|refine z4 ?_ _));exact BK102.out)) : gb103 ≠ gb102));clear BK101;clear BK102;clear HB;have BK101:=n0_;have BK102:=n1_;have HB:=n2_;have BK103:=n3_;have GW103:=n4_;have GE103:=n5_;have NB101_103:=n6_;have NB103_101:=n7_;have NB102_103:=n8_;have NB103_102:=n9_;clear n0_ n1_ n2_ n3_ n4_ n5_ n6_ n7_ n8_ n9_;clear hb hbox hg)|((with_reducible refine zA (N:=5) rfl ?_);refine zB ?hg (N:=5) ?hd (cs:=#[.int .u64 0,.int .u64 0]) (t:=61) ?hr ?_;(case hd=>rfl);(case hg=>rfl);(case hr=>first|(go_simp;done)|(go_simp;rfl));intro gb104 hg w6 hbox hb;have n0_:=z3.mk (zk (g:=gb101) (o:=.cells #[.int .u64 a0_0,.int .u64 a0_1] 61 (0,0)) (by (with_reducible repeat (first|refine z5 ?_ _|refine z7 ?_|refine z4 ?_ _));exact BK101.out) hb);have n1_:=z3.mk (zk (g:=gb102) (o:=.cells #[.int .u64 a1_0,.int .u64 a1_1] 61 (0,0)) (by (with_reducible repeat (first|refine z5 ?_ _|refine z7 ?_|refine z4 ?_ _));exact BK102.out) hb);have n2_:=z3.mk (zk (g:=gb103) (o:=.cells #[.int .u64 0,.int .u64 0] 61 (0,0)) (by (with_reducible repeat (first|refine z5 ?_ _|refine z7 ?_|refine z4 ?_ _));exact BK103.out) hb);have n3_:=z3.mk (za (by repeat (first|(with_reducible first|exact HB.out|apply z2|apply z0|apply z1|refine z6 ?_ GE101.out|refine z6 ?_ GE102.out|refine z6 ?_ GE103.out)|exact HB.out)) hb);have n4_:=z3.mk (hbox);have n5_:=z3.mk ((by rw [hg];exact (zc (by repeat (first|(with_reducible first|exact HB.out|apply z2|apply z0|apply z1|refine z6 ?_ GE101.out|refine z6 ?_ GE102.out|refine z6 ?_ GE103.out)|exact HB.out))) : w.heap.size ≤ gb104));have n6_:=z3.mk ((by rw [hg];exact (zc (by repeat (first|(with_reducible first|exact HB.out|apply z2|apply z0|apply z1|refine z6 ?_ GE101.out|refine z6 ?_ GE102.out|refine z6 ?_ GE103.out)|exact HB.out))) : w.heap.size ≤ gb104));have n7_:=z3.mk ((by rw [hg];exact Nat.ne_of_lt (zS (g:=gb101) (o:=.cells #[.int .u64 a0_0,.int .u64 a0_1] 61 (0,0)) (by (with_reducible repeat (first|refine z5 ?_ _|refine z7 ?_|refine z4 ?_ _));exact BK101.out)) : gb101 ≠ gb104));have n8_:=z3.mk ((by rw [hg];exact Nat.ne_of_gt (zS (g:=gb101) (o:=.cells #[.int .u64 a0_0,.int .u64 a0_1] 61 (0,0)) (by (with_reducible repeat (first|refine z5 ?_ _|refine z7 ?_|refine z4 ?_ _));exact BK101.out)) : gb104 ≠ gb101));have n9_:=z3.mk ((by rw [hg];exact Nat.ne_of_lt (zS (g:=gb102) (o:=.cells #[.int .u64 a1_0,.int .u64 a1_1] 61 (0,0)) (by (with_reducible repeat (first|refine z5 ?_ _|refine z7 ?_|refine z4 ?_ _));exact BK102.out)) : gb102 ≠ gb104));have n10_:=z3.mk ((by rw [hg];exact Nat.ne_of_gt (zS (g:=gb102) (o:=.cells #[.int .u64 a1_0,.int .u64 a1_1] 61 (0,0)) (by (with_reducible repeat (first|refine z5 ?_ _|refine z7 ?_|refine z4 ?_ _));exact BK102.out)) : gb104 ≠ gb102));have n11_:=z3.mk ((by rw [hg];exact Nat.ne_of_lt (zS (g:=gb103) (o:=.cells #[.int .u64 0,.int .u64 0] 61 (0,0)) (by (with_reducible repeat (first|refine z5 ?_ _|refine z7 ?_|refine z4 ?_ _));exact BK103.out)) : gb103 ≠ gb104));have n12_:=z3.mk ((by rw [hg];exact Nat.ne_of_gt (zS (g:=gb103) (o:=.cells #[.int .u64 0,.int .u64 0] 61 (0,0)) (by (with_reducible repeat (first|refine z5 ?_ _|refine z7 ?_|refine z4 ?_ _));exact BK103.out)) : gb104 ≠ gb103));clear BK101;clear BK102;clear BK103;clear HB;have BK101:=n0_;have BK102:=n1_;have BK103:=n2_;have HB:=n3_;have BK104:=n4_;have GW104:=n5_;have GE104:=n6_;have NB101_104:=n7_;have NB104_101:=n8_;have NB102_104:=n9_;have NB104_102:=n10_;have NB103_104:=n11_;have NB104_103:=n12_;clear n0_ n1_ n2_ n3_ n4_ n5_ n6_ n7_ n8_ n9_ n10_ n11_ n12_;clear hb hbox hg))
 go_loopg [6] k (fun kq v6 w'=>∃ (x6_1 : Int) (x105000_1 : Int) (x105001_1 : Int),v6 = .int .i64 x6_1 ∧ z3 (zh.l0 kq x6_1 a0_0 a0_1 a1_0 a1_1 x105000_1 x105001_1 = some (r1,r2)) ∧ z3 (kq ≤ k) ∧ z3 (w'.heap[gb101]? = some (.cells #[.int .u64 a0_0,.int .u64 a0_1] 61 (0,0))) ∧ z3 (w'.heap[gb102]? = some (.cells #[.int .u64 a1_0,.int .u64 a1_1] 61 (0,0))) ∧ z3 (w'.heap[gb103]? = some (.cells #[.int .u64 0,.int .u64 0] 61 (0,0))) ∧ z3 (w'.heap[gb104]? = some (.cells #[.int .u64 x105000_1,.int .u64 x105001_1] 61 (0,0))) ∧ z3 (Below w.heap.size w w'))
 case atStart=>exact ⟨(0),(0),(0),(by first|rfl|(simp;done)|(simp [*];done)),H',⟨Nat.le_refl _⟩,⟨by (with_reducible repeat (first|refine z5 ?_ _|refine z7 ?_|refine z4 ?_ _));exact BK101.out⟩,⟨by (with_reducible repeat (first|refine z5 ?_ _|refine z7 ?_|refine z4 ?_ _));exact BK102.out⟩,⟨by (with_reducible repeat (first|refine z5 ?_ _|refine z7 ?_|refine z4 ?_ _));exact BK103.out⟩,⟨by (with_reducible repeat (first|refine z5 ?_ _|refine z7 ?_|refine z4 ?_ _));exact BK104.out⟩,⟨by repeat (first|(with_reducible first|exact HB.out|apply z2|apply z0|apply z1|refine z6 ?_ GE101.out|refine z6 ?_ GE102.out|refine z6 ?_ GE103.out|refine z6 ?_ GE104.out)|exact HB.out)⟩⟩
 case round =>
  clear H'
  (try clear p2)
  obtain ⟨x6_1,x105000_1,x105001_1,rfl,HA,HK1,BK101,BK102,BK103,BK104,HB⟩:=hrel
  cases gk with
  | zero=>exact absurd HA.out (by simp [zh.l0])
  | succ k1 =>
   have H:=HA.out
   clear HA
   simp only [zh.l0] at H
   by_cases c7 : x6_1 < 128
   rotate_left
   · rw [if_neg c7] at H
     have c7b0 : decide (x6_1 < 128) = false:=decide_eq_false c7
     clear c7
     simp only [Option.some.injEq,Prod.mk.injEq] at H
     obtain ⟨rfl,rfl⟩:=H
     have hnb54:=NB104_101.out
     have hnc54:=NB101_104.out
     have hnb55:=NB104_102.out
     have hnc55:=NB102_104.out
     have hnb56:=NB104_103.out
     have hnc56:=NB103_104.out
     have hcz57_0 : wr.cell? ⟨gb104,0,none⟩ = some (.int .u64 x105000_1):=(ze BK104.out 0).trans rfl
     have hcz57_1 : wr.cell? ⟨gb104,1,none⟩ = some (.int .u64 x105001_1):=(ze BK104.out 1).trans rfl
     have hfz57_0:=zd BK104.out 0
     have hfz57_1:=zd BK104.out 1
     have hnb58:=NB103_101.out
     have hnc58:=NB101_103.out
     have hnb59:=NB103_102.out
     have hnc59:=NB102_103.out
     have hcz60_0 : wr.cell? ⟨gb103,0,none⟩ = some (.int .u64 0):=(ze BK103.out 0).trans rfl
     have hcz60_1 : wr.cell? ⟨gb103,1,none⟩ = some (.int .u64 0):=(ze BK103.out 1).trans rfl
     have hfz60_0:=zd BK103.out 0
     have hfz60_1:=zd BK103.out 1
     go_wp2
     refine bodyPost_ret (results_cell_row rfl _ _ gb103 61 #[.int .u64 x105000_1,.int .u64 x105001_1] (0,0) _ rfl (by (with_reducible repeat (first|refine z5 ?_ _|refine z7 ?_|refine z4 ?_ _));refine zH (cs:=#[.int .u64 x105000_1,.int .u64 0]) ?_ 1 _ rfl;(with_reducible repeat (first|refine z5 ?_ _|refine z7 ?_|refine z4 ?_ _));refine zH (cs:=#[.int .u64 0,.int .u64 0]) ?_ 0 _ rfl;(with_reducible repeat (first|refine z5 ?_ _|refine z7 ?_|refine z4 ?_ _));exact BK103.out) Try.underlying61 rfl (by kernel_rfl)) rfl ?_
     exact ⟨by first|rfl|(simp [zf,zg] <;> rfl)|(simp [*,zf,zg] <;> rfl),by repeat (first|(with_reducible first|exact HB.out|apply z2|apply z0|apply z1|refine z6 ?_ GE101.out|refine z6 ?_ GE102.out|refine z6 ?_ GE103.out|refine z6 ?_ GE104.out)|exact HB.out)⟩
   rw [if_pos c7] at H
   have c7b0 : decide (x6_1 < 128) = true:=decide_eq_true c7
   clear c7
   replace H:=Option.bind_eq_some_iff.mp H
   obtain ⟨t105,A80,H⟩:=H
   replace H : (if t105 = true then (zh.l1 k1 x6_1 0 a0_0 a0_1 a1_0 a1_1 x105000_1 x105001_1 a0_0 a0_1) else (zh.l0 k1 (wrap64 (x6_1 + 1)) a0_0 a0_1 a1_0 a1_1 x105000_1 x105001_1)) = some (r1,r2):=H
   have A8:=z3.mk A80
   clear A80
   by_cases c9 : t105 = true
   rotate_left
   · replace c9:=Bool.eq_false_iff.mpr c9
     subst c9
     have H1 : (zh.l0 k1 (wrap64 (x6_1 + 1)) a0_0 a0_1 a1_0 a1_1 x105000_1 x105001_1) = some (r1,r2):=by rw [if_neg (show ¬ (false = true) by decide)] at H;exact H
     clear H
     have H:=H1
     clear H1
     have H':=z3.mk H
     clear H
     have hnb49:=NB102_101.out
     have hnc49:=NB101_102.out
     have hnb50:=NB102_103.out
     have hnc50:=NB103_102.out
     have hnb51:=NB102_104.out
     have hnc51:=NB104_102.out
     have hcz52_0 : wr.cell? ⟨gb102,0,none⟩ = some (.int .u64 a1_0):=(ze BK102.out 0).trans rfl
     have hcz52_1 : wr.cell? ⟨gb102,1,none⟩ = some (.int .u64 a1_1):=(ze BK102.out 1).trans rfl
     have hfz52_0:=zd BK102.out 0
     have hfz52_1:=zd BK102.out 1
     go_wp2_with (first|((with_reducible refine zq (f:=73) rfl ?_);refine goesL_ (some 15) rfl rfl Try.func73 (by kernel_rfl) rfl #[.agg #[.int .u64 a1_0,.int .u64 a1_1],.int .i64 x6_1] rfl (by (try simp only [List.map_toArray,List.map_cons,List.map_nil]);first|done|rfl|(simp only [List.length_drop,List.length_take];rfl)) ?_;(with_reducible refine (zt.calls k1 a1_0 a1_1 x6_1 false _ A8.out).mono ?_);rintro e w53 ⟨rfl,hb⟩;refine ⟨_,rfl,?_⟩;have n0_:=z3.mk (zk (g:=gb101) (o:=.cells #[.int .u64 a0_0,.int .u64 a0_1] 61 (0,0)) (by (with_reducible repeat (first|refine z5 ?_ _|refine z7 ?_|refine z4 ?_ _));exact BK101.out) hb);have n1_:=z3.mk (zk (g:=gb102) (o:=.cells #[.int .u64 a1_0,.int .u64 a1_1] 61 (0,0)) (by (with_reducible repeat (first|refine z5 ?_ _|refine z7 ?_|refine z4 ?_ _));exact BK102.out) hb);have n2_:=z3.mk (zk (g:=gb103) (o:=.cells #[.int .u64 0,.int .u64 0] 61 (0,0)) (by (with_reducible repeat (first|refine z5 ?_ _|refine z7 ?_|refine z4 ?_ _));exact BK103.out) hb);have n3_:=z3.mk (zk (g:=gb104) (o:=.cells #[.int .u64 x105000_1,.int .u64 x105001_1] 61 (0,0)) (by (with_reducible repeat (first|refine z5 ?_ _|refine z7 ?_|refine z4 ?_ _));exact BK104.out) hb);have n4_:=z3.mk (za (by repeat (first|(with_reducible first|exact HB.out|apply z2|apply z0|apply z1|refine z6 ?_ GE101.out|refine z6 ?_ GE102.out|refine z6 ?_ GE103.out|refine z6 ?_ GE104.out)|exact HB.out)) hb);clear BK101;clear BK102;clear BK103;clear BK104;clear HB;have BK101:=n0_;have BK102:=n1_;have BK103:=n2_;have BK104:=n3_;have HB:=n4_;clear n0_ n1_ n2_ n3_ n4_;(try clear hb);(try clear hb2);(try clear hk);(try clear hi)))
     go_roundg k1
     case measure=>have:=HK1.out;omega
     case rel=>exact ⟨(wrap64 (x6_1 + 1)),(x105000_1),(x105001_1),(by first|rfl|(simp;done)|(simp [*];done)),H',⟨by have:=HK1.out;omega⟩,⟨by (with_reducible repeat (first|refine z5 ?_ _|refine z7 ?_|refine z4 ?_ _));exact BK101.out⟩,⟨by (with_reducible repeat (first|refine z5 ?_ _|refine z7 ?_|refine z4 ?_ _));exact BK102.out⟩,⟨by (with_reducible repeat (first|refine z5 ?_ _|refine z7 ?_|refine z4 ?_ _));exact BK103.out⟩,⟨by (with_reducible repeat (first|refine z5 ?_ _|refine z7 ?_|refine z4 ?_ _));exact BK104.out⟩,⟨by repeat (first|(with_reducible first|exact HB.out|apply z2|apply z0|apply z1|refine z6 ?_ GE101.out|refine z6 ?_ GE102.out|refine z6 ?_ GE103.out|refine z6 ?_ GE104.out)|exact HB.out)⟩⟩
   subst c9
   have H1 : (zh.l1 k1 x6_1 0 a0_0 a0_1 a1_0 a1_1 x105000_1 x105001_1 a0_0 a0_1) = some (r1,r2):=by rw [if_pos rfl] at H;exact H
   clear H
   have H:=H1
   clear H1
   have H':=z3.mk H
   clear H
   have hnb10:=NB102_101.out
   have hnc10:=NB101_102.out
   have hnb11:=NB102_103.out
   have hnc11:=NB103_102.out
   have hnb12:=NB102_104.out
   have hnc12:=NB104_102.out
   have hcz13_0 : wr.cell? ⟨gb102,0,none⟩ = some (.int .u64 a1_0):=(ze BK102.out 0).trans rfl
   have hcz13_1 : wr.cell? ⟨gb102,1,none⟩ = some (.int .u64 a1_1):=(ze BK102.out 1).trans rfl
   have hfz13_0:=zd BK102.out 0
   have hfz13_1:=zd BK102.out 1
   go_wp2_with (first|((with_reducible refine zq (f:=73) rfl ?_);refine goesL_ (some 15) rfl rfl Try.func73 (by kernel_rfl) rfl #[.agg #[.int .u64 a1_0,.int .u64 a1_1],.int .i64 x6_1] rfl (by (try simp only [List.map_toArray,List.map_cons,List.map_nil]);first|done|rfl|(simp only [List.length_drop,List.length_take];rfl)) ?_;(with_reducible refine (zt.calls k1 a1_0 a1_1 x6_1 true _ A8.out).mono ?_);rintro e w14 ⟨rfl,hb⟩;refine ⟨_,rfl,?_⟩;have n0_:=z3.mk (zk (g:=gb101) (o:=.cells #[.int .u64 a0_0,.int .u64 a0_1] 61 (0,0)) (by (with_reducible repeat (first|refine z5 ?_ _|refine z7 ?_|refine z4 ?_ _));exact BK101.out) hb);have n1_:=z3.mk (zk (g:=gb102) (o:=.cells #[.int .u64 a1_0,.int .u64 a1_1] 61 (0,0)) (by (with_reducible repeat (first|refine z5 ?_ _|refine z7 ?_|refine z4 ?_ _));exact BK102.out) hb);have n2_:=z3.mk (zk (g:=gb103) (o:=.cells #[.int .u64 0,.int .u64 0] 61 (0,0)) (by (with_reducible repeat (first|refine z5 ?_ _|refine z7 ?_|refine z4 ?_ _));exact BK103.out) hb);have n3_:=z3.mk (zk (g:=gb104) (o:=.cells #[.int .u64 x105000_1,.int .u64 x105001_1] 61 (0,0)) (by (with_reducible repeat (first|refine z5 ?_ _|refine z7 ?_|refine z4 ?_ _));exact BK104.out) hb);have n4_:=z3.mk (za (by repeat (first|(with_reducible first|exact HB.out|apply z2|apply z0|apply z1|refine z6 ?_ GE101.out|refine z6 ?_ GE102.out|refine z6 ?_ GE103.out|refine z6 ?_ GE104.out)|exact HB.out)) hb);clear BK101;clear BK102;clear BK103;clear BK104;clear HB;have BK101:=n0_;have BK102:=n1_;have BK103:=n2_;have BK104:=n3_;have HB:=n4_;clear n0_ n1_ n2_ n3_ n4_;(try clear hb);(try clear hb2);(try clear hk);(try clear hi);have hnb15:=NB101_103.out;have hnc15:=NB103_101.out;have hnb16:=NB101_104.out;have hnc16:=NB104_101.out;have hcz17_0 : w14.cell? ⟨gb101,0,none⟩ = some (.int .u64 a0_0):=(ze BK101.out 0).trans rfl;have hcz17_1 : w14.cell? ⟨gb101,1,none⟩ = some (.int .u64 a0_1):=(ze BK101.out 1).trans rfl;have hfz17_0:=zd BK101.out 0;have hfz17_1:=zd BK101.out 1)|((with_reducible refine zA (N:=7) rfl ?_);refine zB ?hg (N:=7) ?hd (cs:=#[.int .u64 0,.int .u64 0]) (t:=61) ?hr ?_;(case hd=>rfl);(case hg=>rfl);(case hr=>first|(go_simp;done)|(go_simp;rfl));intro gb106 hg w18 hbox hb;have n0_:=z3.mk (zk (g:=gb101) (o:=.cells #[.int .u64 a0_0,.int .u64 a0_1] 61 (0,0)) (by (with_reducible repeat (first|refine z5 ?_ _|refine z7 ?_|refine z4 ?_ _));exact BK101.out) hb);have n1_:=z3.mk (zk (g:=gb102) (o:=.cells #[.int .u64 a1_0,.int .u64 a1_1] 61 (0,0)) (by (with_reducible repeat (first|refine z5 ?_ _|refine z7 ?_|refine z4 ?_ _));exact BK102.out) hb);have n2_:=z3.mk (zk (g:=gb103) (o:=.cells #[.int .u64 0,.int .u64 0] 61 (0,0)) (by (with_reducible repeat (first|refine z5 ?_ _|refine z7 ?_|refine z4 ?_ _));exact BK103.out) hb);have n3_:=z3.mk (zk (g:=gb104) (o:=.cells #[.int .u64 x105000_1,.int .u64 x105001_1] 61 (0,0)) (by (with_reducible repeat (first|refine z5 ?_ _|refine z7 ?_|refine z4 ?_ _));exact BK104.out) hb);have n4_:=z3.mk (za (by repeat (first|(with_reducible first|exact HB.out|apply z2|apply z0|apply z1|refine z6 ?_ GE101.out|refine z6 ?_ GE102.out|refine z6 ?_ GE103.out|refine z6 ?_ GE104.out)|exact HB.out)) hb);have n5_:=z3.mk (hbox);have n6_:=z3.mk ((by rw [hg];exact (zc (by repeat (first|(with_reducible first|exact HB.out|apply z2|apply z0|apply z1|refine z6 ?_ GE101.out|refine z6 ?_ GE102.out|refine z6 ?_ GE103.out|refine z6 ?_ GE104.out)|exact HB.out))) : w.heap.size ≤ gb106));have n7_:=z3.mk ((by rw [hg];exact (zc (by repeat (first|(with_reducible first|exact HB.out|apply z2|apply z0|apply z1|refine z6 ?_ GE101.out|refine z6 ?_ GE102.out|refine z6 ?_ GE103.out|refine z6 ?_ GE104.out)|exact HB.out))) : w.heap.size ≤ gb106));have n8_:=z3.mk ((by rw [hg];exact Nat.ne_of_lt (zS (g:=gb101) (o:=.cells #[.int .u64 a0_0,.int .u64 a0_1] 61 (0,0)) (by (with_reducible repeat (first|refine z5 ?_ _|refine z7 ?_|refine z4 ?_ _));exact BK101.out)) : gb101 ≠ gb106));have n9_:=z3.mk ((by rw [hg];exact Nat.ne_of_gt (zS (g:=gb101) (o:=.cells #[.int .u64 a0_0,.int .u64 a0_1] 61 (0,0)) (by (with_reducible repeat (first|refine z5 ?_ _|refine z7 ?_|refine z4 ?_ _));exact BK101.out)) : gb106 ≠ gb101));have n10_:=z3.mk ((by rw [hg];exact Nat.ne_of_lt (zS (g:=gb102) (o:=.cells #[.int .u64 a1_0,.int .u64 a1_1] 61 (0,0)) (by (with_reducible repeat (first|refine z5 ?_ _|refine z7 ?_|refine z4 ?_ _));exact BK102.out)) : gb102 ≠ gb106));have n11_:=z3.mk ((by rw [hg];exact Nat.ne_of_gt (zS (g:=gb102) (o:=.cells #[.int .u64 a1_0,.int .u64 a1_1] 61 (0,0)) (by (with_reducible repeat (first|refine z5 ?_ _|refine z7 ?_|refine z4 ?_ _));exact BK102.out)) : gb106 ≠ gb102));have n12_:=z3.mk ((by rw [hg];exact Nat.ne_of_lt (zS (g:=gb103) (o:=.cells #[.int .u64 0,.int .u64 0] 61 (0,0)) (by (with_reducible repeat (first|refine z5 ?_ _|refine z7 ?_|refine z4 ?_ _));exact BK103.out)) : gb103 ≠ gb106));have n13_:=z3.mk ((by rw [hg];exact Nat.ne_of_gt (zS (g:=gb103) (o:=.cells #[.int .u64 0,.int .u64 0] 61 (0,0)) (by (with_reducible repeat (first|refine z5 ?_ _|refine z7 ?_|refine z4 ?_ _));exact BK103.out)) : gb106 ≠ gb103));have n14_:=z3.mk ((by rw [hg];exact Nat.ne_of_lt (zS (g:=gb104) (o:=.cells #[.int .u64 x105000_1,.int .u64 x105001_1] 61 (0,0)) (by (with_reducible repeat (first|refine z5 ?_ _|refine z7 ?_|refine z4 ?_ _));exact BK104.out)) : gb104 ≠ gb106));have n15_:=z3.mk ((by rw [hg];exact Nat.ne_of_gt (zS (g:=gb104) (o:=.cells #[.int .u64 x105000_1,.int .u64 x105001_1] 61 (0,0)) (by (with_reducible repeat (first|refine z5 ?_ _|refine z7 ?_|refine z4 ?_ _));exact BK104.out)) : gb106 ≠ gb104));clear BK101;clear BK102;clear BK103;clear BK104;clear HB;have BK101:=n0_;have BK102:=n1_;have BK103:=n2_;have BK104:=n3_;have HB:=n4_;have BK106:=n5_;have GW106:=n6_;have GE106:=n7_;have NB101_106:=n8_;have NB106_101:=n9_;have NB102_106:=n10_;have NB106_102:=n11_;have NB103_106:=n12_;have NB106_103:=n13_;have NB104_106:=n14_;have NB106_104:=n15_;clear n0_ n1_ n2_ n3_ n4_ n5_ n6_ n7_ n8_ n9_ n10_ n11_ n12_ n13_ n14_ n15_;clear hb hbox hg;have hnb19:=NB106_101.out;have hnc19:=NB101_106.out;have hnb20:=NB106_102.out;have hnc20:=NB102_106.out;have hnb21:=NB106_103.out;have hnc21:=NB103_106.out;have hnb22:=NB106_104.out;have hnc22:=NB104_106.out;have hcz23_0 : w18.cell? ⟨gb106,0,none⟩ = some (.int .u64 0):=(ze BK106.out 0).trans rfl;have hcz23_1 : w18.cell? ⟨gb106,1,none⟩ = some (.int .u64 0):=(ze BK106.out 1).trans rfl;have hfz23_0:=zd BK106.out 0;have hfz23_1:=zd BK106.out 1))
   go_loopg [8] k1 (fun kq v8 w'=>∃ (x8_2 : Int) (x107000_2 : Int) (x107001_2 : Int),v8 = .int .i64 x8_2 ∧ z3 (zh.l1 kq x6_1 x8_2 a0_0 a0_1 a1_0 a1_1 x105000_1 x105001_1 x107000_2 x107001_2 = some (r1,r2)) ∧ z3 (kq ≤ k1) ∧ z3 (w'.heap[gb101]? = some (.cells #[.int .u64 a0_0,.int .u64 a0_1] 61 (0,0))) ∧ z3 (w'.heap[gb102]? = some (.cells #[.int .u64 a1_0,.int .u64 a1_1] 61 (0,0))) ∧ z3 (w'.heap[gb103]? = some (.cells #[.int .u64 0,.int .u64 0] 61 (0,0))) ∧ z3 (w'.heap[gb104]? = some (.cells #[.int .u64 x105000_1,.int .u64 x105001_1] 61 (0,0))) ∧ z3 (w'.heap[gb106]? = some (.cells #[.int .u64 x107000_2,.int .u64 x107001_2] 61 (0,0))) ∧ z3 (Below w.heap.size w w'))
   case atStart=>exact ⟨(0),(a0_0),(a0_1),(by first|rfl|(simp;done)|(simp [*];done)),H',⟨Nat.le_refl _⟩,⟨by (with_reducible repeat (first|refine z5 ?_ _|refine z7 ?_|refine z4 ?_ _));refine z1m ?_ NB101_106.out _;(with_reducible repeat (first|refine z5 ?_ _|refine z7 ?_|refine z4 ?_ _));refine z1m ?_ NB101_106.out _;(with_reducible repeat (first|refine z5 ?_ _|refine z7 ?_|refine z4 ?_ _));exact BK101.out⟩,⟨by (with_reducible repeat (first|refine z5 ?_ _|refine z7 ?_|refine z4 ?_ _));refine z1m ?_ NB102_106.out _;(with_reducible repeat (first|refine z5 ?_ _|refine z7 ?_|refine z4 ?_ _));refine z1m ?_ NB102_106.out _;(with_reducible repeat (first|refine z5 ?_ _|refine z7 ?_|refine z4 ?_ _));exact BK102.out⟩,⟨by (with_reducible repeat (first|refine z5 ?_ _|refine z7 ?_|refine z4 ?_ _));refine z1m ?_ NB103_106.out _;(with_reducible repeat (first|refine z5 ?_ _|refine z7 ?_|refine z4 ?_ _));refine z1m ?_ NB103_106.out _;(with_reducible repeat (first|refine z5 ?_ _|refine z7 ?_|refine z4 ?_ _));exact BK103.out⟩,⟨by (with_reducible repeat (first|refine z5 ?_ _|refine z7 ?_|refine z4 ?_ _));refine z1m ?_ NB104_106.out _;(with_reducible repeat (first|refine z5 ?_ _|refine z7 ?_|refine z4 ?_ _));refine z1m ?_ NB104_106.out _;(with_reducible repeat (first|refine z5 ?_ _|refine z7 ?_|refine z4 ?_ _));exact BK104.out⟩,⟨by (with_reducible repeat (first|refine z5 ?_ _|refine z7 ?_|refine z4 ?_ _));refine zH (cs:=#[.int .u64 a0_0,.int .u64 0]) ?_ 1 _ rfl;(with_reducible repeat (first|refine z5 ?_ _|refine z7 ?_|refine z4 ?_ _));refine zH (cs:=#[.int .u64 0,.int .u64 0]) ?_ 0 _ rfl;(with_reducible repeat (first|refine z5 ?_ _|refine z7 ?_|refine z4 ?_ _));exact BK106.out⟩,⟨by repeat (first|(with_reducible first|exact HB.out|apply z2|apply z0|apply z1|refine z6 ?_ GE101.out|refine z6 ?_ GE102.out|refine z6 ?_ GE103.out|refine z6 ?_ GE104.out|refine z6 ?_ GE106.out)|exact HB.out)⟩⟩
   case round =>
    clear H'
    (try clear c1);(try clear c2);(try clear p2);(try clear p6);(try clear c7);(try clear c7b0);(try clear c9);(try clear c10);(try clear c11);(try clear c12);(try clear c15);(try clear c16);(try clear c19);(try clear c20);(try clear c21);(try clear c22);(try clear hcz13_0);(try clear hcz13_1);(try clear hcz17_0);(try clear hcz17_1);(try clear hcz23_0);(try clear hcz23_1);(try clear hfz13_0);(try clear hfz13_1);(try clear hfz17_0);(try clear hfz17_1);(try clear hfz23_0);(try clear hfz23_1);(try clear p2)
    obtain ⟨x8_2,x107000_2,x107001_2,rfl,HA,HK2,BK101,BK102,BK103,BK104,BK106,HB⟩:=hrel
    cases gk with
    | zero=>exact absurd HA.out (by simp [zh.l1])
    | succ k2 =>
     have H:=HA.out
     clear HA
     simp only [zh.l1] at H
     by_cases c24 : x8_2 < 7
     rotate_left
     · rw [if_neg c24] at H
       have c24b0 : decide (x8_2 < 7) = false:=decide_eq_false c24
       clear c24
       replace H:=Option.bind_eq_some_iff.mp H
       obtain ⟨⟨t109,t110⟩,A370,H⟩:=H
       replace H : (zh.l0 k2 (wrap64 (x6_1 + 1)) a0_0 a0_1 a1_0 a1_1 t109 t110) = some (r1,r2):=H
       have A37:=z3.mk A370
       clear A370
       have H':=z3.mk H
       clear H
       have hnb38:=NB104_101.out
       have hnc38:=NB101_104.out
       have hnb39:=NB104_102.out
       have hnc39:=NB102_104.out
       have hnb40:=NB104_103.out
       have hnc40:=NB103_104.out
       have hnb41:=NB104_106.out
       have hnc41:=NB106_104.out
       have hcz42_0 : wr.cell? ⟨gb104,0,none⟩ = some (.int .u64 x105000_1):=(ze BK104.out 0).trans rfl
       have hcz42_1 : wr.cell? ⟨gb104,1,none⟩ = some (.int .u64 x105001_1):=(ze BK104.out 1).trans rfl
       have hfz42_0:=zd BK104.out 0
       have hfz42_1:=zd BK104.out 1
       have hnb43:=NB106_101.out
       have hnc43:=NB101_106.out
       have hnb44:=NB106_102.out
       have hnc44:=NB102_106.out
       have hnb45:=NB106_103.out
       have hnc45:=NB103_106.out
       have hcz46_0 : wr.cell? ⟨gb106,0,none⟩ = some (.int .u64 x107000_2):=(ze BK106.out 0).trans rfl
       have hcz46_1 : wr.cell? ⟨gb106,1,none⟩ = some (.int .u64 x107001_2):=(ze BK106.out 1).trans rfl
       have hfz46_0:=zd BK106.out 0
       have hfz46_1:=zd BK106.out 1
       go_wp2_with (first|((with_reducible refine zq (f:=74) rfl ?_);refine goesL_ (some 33) rfl rfl Try.func74 (by kernel_rfl) rfl #[.agg #[.int .u64 x105000_1,.int .u64 x105001_1],.agg #[.int .u64 x107000_2,.int .u64 x107001_2]] rfl (by (try simp only [List.map_toArray,List.map_cons,List.map_nil]);first|done|rfl|(simp only [List.length_drop,List.length_take];rfl)) ?_;(with_reducible refine (zM.calls x105000_1 x105001_1 x107000_2 x107001_2 t109 t110 _ A37.out).mono ?_);rintro e w47 ⟨rfl,hb⟩;refine ⟨_,rfl,?_⟩;have n0_:=z3.mk (zk (g:=gb101) (o:=.cells #[.int .u64 a0_0,.int .u64 a0_1] 61 (0,0)) (by (with_reducible repeat (first|refine z5 ?_ _|refine z7 ?_|refine z4 ?_ _));exact BK101.out) hb);have n1_:=z3.mk (zk (g:=gb102) (o:=.cells #[.int .u64 a1_0,.int .u64 a1_1] 61 (0,0)) (by (with_reducible repeat (first|refine z5 ?_ _|refine z7 ?_|refine z4 ?_ _));exact BK102.out) hb);have n2_:=z3.mk (zk (g:=gb103) (o:=.cells #[.int .u64 0,.int .u64 0] 61 (0,0)) (by (with_reducible repeat (first|refine z5 ?_ _|refine z7 ?_|refine z4 ?_ _));exact BK103.out) hb);have n3_:=z3.mk (zk (g:=gb104) (o:=.cells #[.int .u64 x105000_1,.int .u64 x105001_1] 61 (0,0)) (by (with_reducible repeat (first|refine z5 ?_ _|refine z7 ?_|refine z4 ?_ _));exact BK104.out) hb);have n4_:=z3.mk (zk (g:=gb106) (o:=.cells #[.int .u64 x107000_2,.int .u64 x107001_2] 61 (0,0)) (by (with_reducible repeat (first|refine z5 ?_ _|refine z7 ?_|refine z4 ?_ _));exact BK106.out) hb);have n5_:=z3.mk (za (by repeat (first|(with_reducible first|exact HB.out|apply z2|apply z0|apply z1|refine z6 ?_ GE101.out|refine z6 ?_ GE102.out|refine z6 ?_ GE103.out|refine z6 ?_ GE104.out|refine z6 ?_ GE106.out)|exact HB.out)) hb);clear BK101;clear BK102;clear BK103;clear BK104;clear BK106;clear HB;have BK101:=n0_;have BK102:=n1_;have BK103:=n2_;have BK104:=n3_;have BK106:=n4_;have HB:=n5_;clear n0_ n1_ n2_ n3_ n4_ n5_;(try clear hb);(try clear hb2);(try clear hk);(try clear hi);have hcz48_0 : w47.cell? ⟨gb104,0,none⟩ = some (.int .u64 x105000_1):=(ze BK104.out 0).trans rfl;have hcz48_1 : w47.cell? ⟨gb104,1,none⟩ = some (.int .u64 x105001_1):=(ze BK104.out 1).trans rfl;have hfz48_0:=zd BK104.out 0;have hfz48_1:=zd BK104.out 1))
       go_roundg k2
       case measure=>have:=HK1.out;have:=HK2.out;omega
       case rel=>exact ⟨(wrap64 (x6_1 + 1)),(t109),(t110),(by first|rfl|(simp;done)|(simp [*];done)),H',⟨by have:=HK1.out;have:=HK2.out;omega⟩,⟨by (with_reducible repeat (first|refine z5 ?_ _|refine z7 ?_|refine z4 ?_ _));refine z1m ?_ NB101_104.out _;(with_reducible repeat (first|refine z5 ?_ _|refine z7 ?_|refine z4 ?_ _));refine z1m ?_ NB101_104.out _;(with_reducible repeat (first|refine z5 ?_ _|refine z7 ?_|refine z4 ?_ _));exact BK101.out⟩,⟨by (with_reducible repeat (first|refine z5 ?_ _|refine z7 ?_|refine z4 ?_ _));refine z1m ?_ NB102_104.out _;(with_reducible repeat (first|refine z5 ?_ _|refine z7 ?_|refine z4 ?_ _));refine z1m ?_ NB102_104.out _;(with_reducible repeat (first|refine z5 ?_ _|refine z7 ?_|refine z4 ?_ _));exact BK102.out⟩,⟨by (with_reducible repeat (first|refine z5 ?_ _|refine z7 ?_|refine z4 ?_ _));refine z1m ?_ NB103_104.out _;(with_reducible repeat (first|refine z5 ?_ _|refine z7 ?_|refine z4 ?_ _));refine z1m ?_ NB103_104.out _;(with_reducible repeat (first|refine z5 ?_ _|refine z7 ?_|refine z4 ?_ _));exact BK103.out⟩,⟨by (with_reducible repeat (first|refine z5 ?_ _|refine z7 ?_|refine z4 ?_ _));refine zH (cs:=#[.int .u64 t109,.int .u64 x105001_1]) ?_ 1 _ rfl;(with_reducible repeat (first|refine z5 ?_ _|refine z7 ?_|refine z4 ?_ _));refine zH (cs:=#[.int .u64 x105000_1,.int .u64 x105001_1]) ?_ 0 _ rfl;(with_reducible repeat (first|refine z5 ?_ _|refine z7 ?_|refine z4 ?_ _));exact BK104.out⟩,⟨by repeat (first|(with_reducible first|exact HB.out|apply z2|apply z0|apply z1|refine z6 ?_ GE101.out|refine z6 ?_ GE102.out|refine z6 ?_ GE103.out|refine z6 ?_ GE104.out|refine z6 ?_ GE106.out)|exact HB.out)⟩⟩
     rw [if_pos c24] at H
     have c24b0 : decide (x8_2 < 7) = true:=decide_eq_true c24
     clear c24
     obtain ⟨ji25,hji25⟩ : ∃ j_ : Int,(IntKind.u64.wrap (x8_2)) = j_:=⟨_,rfl⟩
     replace H : (if 0 ≤ (ji25) then (if (Go.bits .and .i64 (shr .i64 x6_1 (ji25)) 1) = 1 then ((zx.f k2 x8_2 x107000_2 x107001_2).bind fun bt107=>(zh.l1 k2 x6_1 (wrap64 (x8_2 + 1)) a0_0 a0_1 a1_0 a1_1 x105000_1 x105001_1 bt107.1 bt107.2)) else (zh.l1 k2 x6_1 (wrap64 (x8_2 + 1)) a0_0 a0_1 a1_0 a1_1 x105000_1 x105001_1 x107000_2 x107001_2)) else (none)) = some (r1,r2):=by first|(rw [hji25] at H;exact H)|(simp only [hji25] at H ⊢;exact H)
     by_cases c26 : 0 ≤ (ji25)
     rotate_left
     · rw [if_neg c26] at H
       exact absurd H (by simp)
     rw [if_pos c26] at H
     have c26b0:=eq_true c26
     have c26b1 : decide (0 ≤ (ji25)) = true:=decide_eq_true c26
     clear c26
     obtain ⟨ji27,hji27⟩ : ∃ j_ : Int,(shr .i64 x6_1 (ji25)) = j_:=⟨_,rfl⟩
     replace H : (if (Go.bits .and .i64 (ji27) 1) = 1 then ((zx.f k2 x8_2 x107000_2 x107001_2).bind fun bt107=>(zh.l1 k2 x6_1 (wrap64 (x8_2 + 1)) a0_0 a0_1 a1_0 a1_1 x105000_1 x105001_1 bt107.1 bt107.2)) else (zh.l1 k2 x6_1 (wrap64 (x8_2 + 1)) a0_0 a0_1 a1_0 a1_1 x105000_1 x105001_1 x107000_2 x107001_2)) = some (r1,r2):=by first|(rw [hji27] at H;exact H)|(simp only [hji27] at H ⊢;exact H)
     have hji27_ : (x6_1 / 2 ^ min (ji25).toNat 64) = ji27:=hji27
     have hji27z : (ji25) ≤ 64 → (x6_1 / 2 ^ (ji25).toNat) = ji27:=z1C hji27
     by_cases c28 : (Go.bits .and .i64 (ji27) 1) = 1
     rotate_left
     · rw [if_neg c28] at H
       have c28b0 : ((Go.bits .and .i64 (ji27) 1) == 1) = false:=beq_eq_false_iff_ne.mpr c28
       have c28b1 : ((Go.bits .and .i64 (ji27) 1) != 1) = true:=bne_iff_ne.mpr c28
       have H':=z3.mk H
       clear H
       go_wp2
       go_roundg k2
       case measure=>have:=HK1.out;have:=HK2.out;omega
       case rel=>exact ⟨(wrap64 (x8_2 + 1)),(x107000_2),(x107001_2),(by first|rfl|(simp;done)|(simp [*];done)),H',⟨by have:=HK1.out;have:=HK2.out;omega⟩,⟨by (with_reducible repeat (first|refine z5 ?_ _|refine z7 ?_|refine z4 ?_ _));exact BK101.out⟩,⟨by (with_reducible repeat (first|refine z5 ?_ _|refine z7 ?_|refine z4 ?_ _));exact BK102.out⟩,⟨by (with_reducible repeat (first|refine z5 ?_ _|refine z7 ?_|refine z4 ?_ _));exact BK103.out⟩,⟨by (with_reducible repeat (first|refine z5 ?_ _|refine z7 ?_|refine z4 ?_ _));exact BK104.out⟩,⟨by (with_reducible repeat (first|refine z5 ?_ _|refine z7 ?_|refine z4 ?_ _));exact BK106.out⟩,⟨by repeat (first|(with_reducible first|exact HB.out|apply z2|apply z0|apply z1|refine z6 ?_ GE101.out|refine z6 ?_ GE102.out|refine z6 ?_ GE103.out|refine z6 ?_ GE104.out|refine z6 ?_ GE106.out)|exact HB.out)⟩⟩
     rw [if_pos c28] at H
     have c28b0 : ((Go.bits .and .i64 (ji27) 1) == 1) = true:=beq_iff_eq.mpr c28
     have c28b1 : ((Go.bits .and .i64 (ji27) 1) != 1) = false:=bne_eq_false_iff_eq.mpr c28
     clear c28
     replace H:=Option.bind_eq_some_iff.mp H
     obtain ⟨⟨t107,t108⟩,A290,H⟩:=H
     replace H : (zh.l1 k2 x6_1 (wrap64 (x8_2 + 1)) a0_0 a0_1 a1_0 a1_1 x105000_1 x105001_1 t107 t108) = some (r1,r2):=H
     have A29:=z3.mk A290
     clear A290
     have H':=z3.mk H
     clear H
     have hnb30:=NB106_101.out
     have hnc30:=NB101_106.out
     have hnb31:=NB106_102.out
     have hnc31:=NB102_106.out
     have hnb32:=NB106_103.out
     have hnc32:=NB103_106.out
     have hnb33:=NB106_104.out
     have hnc33:=NB104_106.out
     have hcz34_0 : wr.cell? ⟨gb106,0,none⟩ = some (.int .u64 x107000_2):=(ze BK106.out 0).trans rfl
     have hcz34_1 : wr.cell? ⟨gb106,1,none⟩ = some (.int .u64 x107001_2):=(ze BK106.out 1).trans rfl
     have hfz34_0:=zd BK106.out 0
     have hfz34_1:=zd BK106.out 1
     go_wp2_with (first|((with_reducible refine zq (f:=95) rfl ?_);refine goesL_ (some 30) rfl rfl Try.func95 (by kernel_rfl) rfl #[.int .i64 x8_2,.agg #[.int .u64 x107000_2,.int .u64 x107001_2]] rfl (by (try simp only [List.map_toArray,List.map_cons,List.map_nil]);first|done|rfl|(simp only [List.length_drop,List.length_take];rfl)) ?_;(with_reducible refine (zx.calls k2 x8_2 x107000_2 x107001_2 t107 t108 _ A29.out).mono ?_);rintro e w35 ⟨rfl,hb⟩;refine ⟨_,rfl,?_⟩;have n0_:=z3.mk (zk (g:=gb101) (o:=.cells #[.int .u64 a0_0,.int .u64 a0_1] 61 (0,0)) (by (with_reducible repeat (first|refine z5 ?_ _|refine z7 ?_|refine z4 ?_ _));exact BK101.out) hb);have n1_:=z3.mk (zk (g:=gb102) (o:=.cells #[.int .u64 a1_0,.int .u64 a1_1] 61 (0,0)) (by (with_reducible repeat (first|refine z5 ?_ _|refine z7 ?_|refine z4 ?_ _));exact BK102.out) hb);have n2_:=z3.mk (zk (g:=gb103) (o:=.cells #[.int .u64 0,.int .u64 0] 61 (0,0)) (by (with_reducible repeat (first|refine z5 ?_ _|refine z7 ?_|refine z4 ?_ _));exact BK103.out) hb);have n3_:=z3.mk (zk (g:=gb104) (o:=.cells #[.int .u64 x105000_1,.int .u64 x105001_1] 61 (0,0)) (by (with_reducible repeat (first|refine z5 ?_ _|refine z7 ?_|refine z4 ?_ _));exact BK104.out) hb);have n4_:=z3.mk (zk (g:=gb106) (o:=.cells #[.int .u64 x107000_2,.int .u64 x107001_2] 61 (0,0)) (by (with_reducible repeat (first|refine z5 ?_ _|refine z7 ?_|refine z4 ?_ _));exact BK106.out) hb);have n5_:=z3.mk (za (by repeat (first|(with_reducible first|exact HB.out|apply z2|apply z0|apply z1|refine z6 ?_ GE101.out|refine z6 ?_ GE102.out|refine z6 ?_ GE103.out|refine z6 ?_ GE104.out|refine z6 ?_ GE106.out)|exact HB.out)) hb);clear BK101;clear BK102;clear BK103;clear BK104;clear BK106;clear HB;have BK101:=n0_;have BK102:=n1_;have BK103:=n2_;have BK104:=n3_;have BK106:=n4_;have HB:=n5_;clear n0_ n1_ n2_ n3_ n4_ n5_;(try clear hb);(try clear hb2);(try clear hk);(try clear hi);have hcz36_0 : w35.cell? ⟨gb106,0,none⟩ = some (.int .u64 x107000_2):=(ze BK106.out 0).trans rfl;have hcz36_1 : w35.cell? ⟨gb106,1,none⟩ = some (.int .u64 x107001_2):=(ze BK106.out 1).trans rfl;have hfz36_0:=zd BK106.out 0;have hfz36_1:=zd BK106.out 1))
     go_roundg k2
     case measure=>have:=HK1.out;have:=HK2.out;omega
     case rel=>exact ⟨(wrap64 (x8_2 + 1)),(t107),(t108),(by first|rfl|(simp;done)|(simp [*];done)),H',⟨by have:=HK1.out;have:=HK2.out;omega⟩,⟨by (with_reducible repeat (first|refine z5 ?_ _|refine z7 ?_|refine z4 ?_ _));refine z1m ?_ NB101_106.out _;(with_reducible repeat (first|refine z5 ?_ _|refine z7 ?_|refine z4 ?_ _));refine z1m ?_ NB101_106.out _;(with_reducible repeat (first|refine z5 ?_ _|refine z7 ?_|refine z4 ?_ _));exact BK101.out⟩,⟨by (with_reducible repeat (first|refine z5 ?_ _|refine z7 ?_|refine z4 ?_ _));refine z1m ?_ NB102_106.out _;(with_reducible repeat (first|refine z5 ?_ _|refine z7 ?_|refine z4 ?_ _));refine z1m ?_ NB102_106.out _;(with_reducible repeat (first|refine z5 ?_ _|refine z7 ?_|refine z4 ?_ _));exact BK102.out⟩,⟨by (with_reducible repeat (first|refine z5 ?_ _|refine z7 ?_|refine z4 ?_ _));refine z1m ?_ NB103_106.out _;(with_reducible repeat (first|refine z5 ?_ _|refine z7 ?_|refine z4 ?_ _));refine z1m ?_ NB103_106.out _;(with_reducible repeat (first|refine z5 ?_ _|refine z7 ?_|refine z4 ?_ _));exact BK103.out⟩,⟨by (with_reducible repeat (first|refine z5 ?_ _|refine z7 ?_|refine z4 ?_ _));refine z1m ?_ NB104_106.out _;(with_reducible repeat (first|refine z5 ?_ _|refine z7 ?_|refine z4 ?_ _));refine z1m ?_ NB104_106.out _;(with_reducible repeat (first|refine z5 ?_ _|refine z7 ?_|refine z4 ?_ _));exact BK104.out⟩,⟨by (with_reducible repeat (first|refine z5 ?_ _|refine z7 ?_|refine z4 ?_ _));refine zH (cs:=#[.int .u64 t107,.int .u64 x107001_2]) ?_ 1 _ rfl;(with_reducible repeat (first|refine z5 ?_ _|refine z7 ?_|refine z4 ?_ _));refine zH (cs:=#[.int .u64 x107000_2,.int .u64 x107001_2]) ?_ 0 _ rfl;(with_reducible repeat (first|refine z5 ?_ _|refine z7 ?_|refine z4 ?_ _));exact BK106.out⟩,⟨by repeat (first|(with_reducible first|exact HB.out|apply z2|apply z0|apply z1|refine z6 ?_ GE101.out|refine z6 ?_ GE102.out|refine z6 ?_ GE103.out|refine z6 ?_ GE104.out|refine z6 ?_ GE106.out)|exact HB.out)⟩⟩
end Go.Proofs.Ytngcaphdkgihmaa.P
/- The document's product of elements is the tower's. Own text. -/
namespace Go.Proofs.Ytngcaphdkgihmaa.Sp
open Go.RowKit Go.Proofs.YtngcaphdkgihmaaW.PrintWords Go.Proofs.YtngcaphdkgihmaaW.PrintMore Go.Proofs.Ytngcaphdkgihmaa.P Go.Proofs.Ytngcaphdkgihmaa.Ar Go.Proofs.Ytngcaphdkgihmaa.Tw
set_option linter.unusedVariables false
set_option linter.unusedSimpArgs false
theorem z5E : ∀ j : Nat, j < 6 → zT.f (j : Int) = some ((M j 6 : Nat) : Int) := by decide +kernel
theorem tw_lt {j v : Nat} (hj : j ≤ 6) (hv : v < Q 6) : tw 6 j v < Q 6 := by rw [tw_eq hj hv]; exact z18 _
theorem shlw (a w : Nat) (hw : w ≤ 64) : shl .u64 (a : Int) (w : Int) = (((a * 2 ^ w) % 2 ^ 64 : Nat) : Int) := by
  unfold shl
  have h64 : IntKind.u64.bits = 64 := rfl
  rw [h64, Int.toNat_natCast, Nat.min_eq_left hw]
  have hc : ((a : Int) * 2 ^ w) = ((a * 2 ^ w : Nat) : Int) := by simp
  rw [hc]
  simp [IntKind.wrap, IntKind.bits, IntKind.signed]
theorem z2v : ∀ (j : Nat), j ≤ 6 → ∀ (v : Nat), v < Q 6 → Ev (fun k => zo.f k ((j : Int) - 1) (v : Int)) ((tw 6 j v : Nat) : Int) := by
  intro j
  induction j with
  | zero =>
    intro _ v hv
    have h0 : (((0 : Nat) : Int) - 1) < 0 := by decide
    refine Ev.step (fun k => by rw [zo.f]) (Ev.pos h0 ?_)
    exact Ev.ret' rfl
  | succ j ih =>
    intro hj v hv
    have h32 := z1B (n := j) (by omega)
    have hw : IntKind.u64.wrap (((j + 1 : Nat) : Int) - 1) = (j : Int) := by rw [z2b (by omega) (by omega)]; omega
    have hw2 : wrap64 (((j + 1 : Nat) : Int) - 1 - 1) = (j : Int) - 1 := by rw [z1J (by omega) (by omega)]; omega
    have hj1 : (((j + 1 : Nat) : Int) - 1) = (j : Int) := by omega
    have hQ6 : Q 6 = 2 ^ 64 := rfl
    have hM : M j 6 < 2 ^ 64 := by rw [← hQ6]; exact M_lt_Q (by omega)
    have hd : v / 2 ^ 2 ^ j < 2 ^ 64 := Nat.lt_of_le_of_lt (Nat.div_le_self _ _) hv
    have hhi : (v / 2 ^ 2 ^ j) &&& M j 6 < 2 ^ 64 := Nat.and_lt_two_pow _ hM
    have hlo : v &&& M j 6 < 2 ^ 64 := Nat.and_lt_two_pow _ hM
    have hrec := ih (by omega) _ hhi
    have htw : tw 6 j ((v / 2 ^ 2 ^ j) &&& M j 6) < 2 ^ 64 := tw_lt (by omega) hhi
    rw [hj1] at hw hw2 ⊢
    refine Ev.step (fun k => by rw [zo.f]) (Ev.neg (by omega) ?_)
    simp only [hw]
    refine Ev.pos (Int.natCast_nonneg _) (Ev.bnd0 (z5E j (by omega)) (Ev.bnd0 (z5E j (by omega)) ?_))
    simp only [z26 j (by omega), z2u v (2 ^ j) (by omega), z1T _ _ hd hM, z1T _ _ hv hM, hw2]
    refine Ev.bnd hrec (Ev.ret' ?_)
    rw [z1A _ _ hlo htw, shlw _ _ (by omega), z3B _ _ (Nat.mod_lt _ (by decide)) hhi]
    rfl
/-- The generator of a level, as an element of the greatest one. -/
def gE (m : Nat) : E := of 7 (val (gen m))
theorem tw_hi {j : Nat} (hj : j ≤ 6) (x : T 6) : tw 6 j (val x) = val (of 6 (val (gen j)) * x) := by rw [tw_eq hj (z18 x), z1w]
theorem Times_ev (j : Nat) (hj : j ≤ 6) (x : E) : Ev (fun k => zx.f k (j : Int) (hi x) (lo x)) (hi (gE (j + 1) * x), lo (gE (j + 1) * x)) := by
  unfold zx.f
  by_cases c : j < 6
  · refine Ev.pos (by omega) ?_
    have h1 := z2v (j + 1) (by omega) (val x.1) (z18 x.1)
    have h2 := z2v (j + 1) (by omega) (val x.2) (z18 x.2)
    rw [show (((j + 1 : Nat) : Int) - 1) = (j : Int) by omega] at h1 h2
    refine Ev.bnd h1 (Ev.bnd h2 (Ev.ret' ?_))
    have e : gE (j + 1) = up (of 6 (val (gen (j + 1)))) := z4b (Nat.lt_of_lt_of_le (z48 (j + 1)) (z2G (by omega)))
    rw [e, z2R, tw_hi (by omega), tw_hi (by omega)]; rfl
  · have : j = 6 := by omega
    subst this
    refine Ev.neg (by decide) ?_
    have h1 := z2v 6 (by omega) (val x.1) (z18 x.1)
    refine Ev.bnd h1 (Ev.ret' ?_)
    have e : gE 7 = gen 7 := z1w _
    have ev : of 6 (val (gen 6)) = gen 6 := z1w _
    rw [tw_hi (by omega), e, ev]
    unfold hi lo
    rw [z1A _ _ (z18 _) (z18 _), ← z1t]
    have m1 : (gen 7 * x).1 = x.2 + gen 6 * x.1 := by rw [z1K, z2m, z2n, one_mul, zero_mul, one_mul, add_zero]
    have m2 : (gen 7 * x).2 = x.1 := by rw [z1L, z2m, z2n, one_mul, zero_mul, zero_add]
    rw [m1, m2]
/-- The element with one bit. -/
def bitE (n : Nat) : E := of 7 (2 ^ n)
theorem z4r {n : Nat} (hn : n < 128) : hi (bitE n) = (if n < 64 then 0 else ((2 ^ (n - 64) : Nat) : Int)) ∧ lo (bitE n) = (if n < 64 then ((2 ^ n : Nat) : Int) else 0) := by
  unfold bitE hi lo
  rw [z1E, z1V, z20]
  have hQ : Q 6 = 2 ^ 64 := rfl
  by_cases c : n < 64
  · have h1 : 2 ^ n < Q 6 := by rw [hQ]; exact Nat.pow_lt_pow_right (by decide) c
    rw [if_pos c, if_pos c, Nat.div_eq_of_lt h1, Nat.mod_eq_of_lt h1, z1F _ _ h1, z1W, z1o]; exact ⟨rfl, rfl⟩
  · have e : 2 ^ n = 2 ^ (n - 64) * Q 6 + 0 := by rw [hQ, ← Nat.pow_add, Nat.add_zero]; congr 1; omega
    have h2 : 2 ^ (n - 64) < Q 6 := by rw [hQ]; exact Nat.pow_lt_pow_right (by decide) (by omega)
    rw [if_neg c, if_neg c, e, z2B (z27 6), z2C (z27 6), z1F _ _ h2, z1W, z1o]; exact ⟨rfl, rfl⟩
theorem z3i (n : Nat) (hn : n < 128) : Ev (fun k => zi.f k (n : Int)) (hi (bitE n), lo (bitE n)) := by
  obtain ⟨h1, h2⟩ := z4r hn
  unfold zi.f
  refine Ev.neg (by omega) ?_
  rw [decide_eq_false (show ¬ ((n : Int) > 127) by omega), h1, h2]
  refine Ev.step (fun k => by rw [zi.j0]) (Ev.neg (by decide) ?_)
  by_cases c : n < 64
  · rw [if_pos c, if_pos c]
    refine Ev.neg (by omega) ?_
    rw [z2b (by omega) (by omega)]
    exact Ev.pos (Int.natCast_nonneg _) (Ev.ret' (by rw [z26 n (by omega)]))
  · rw [if_neg c, if_neg c]
    refine Ev.pos (by omega) ?_
    have e : IntKind.u64.wrap (wrap64 ((n : Int) - 64)) = ((n - 64 : Nat) : Int) := by
      rw [z1J (by omega) (by omega), z2b (by omega) (by omega)]; omega
    rw [e]
    exact Ev.pos (Int.natCast_nonneg _) (Ev.ret' (by rw [z26 (n - 64) (by omega)]))
theorem z3z (x n : Nat) : (x &&& 2 ^ n ≠ 0) ↔ x.testBit n = true := by
  constructor
  · intro h
    cases hb : x.testBit n with
    | true => rfl
    | false =>
      exfalso; apply h
      apply Nat.eq_of_testBit_eq
      intro i
      rw [Nat.testBit_and, Nat.zero_testBit]
      by_cases e : i = n
      · subst e; rw [hb, Bool.false_and]
      · rw [Nat.testBit_two_pow_of_ne (by omega), Bool.and_false]
  · intro h e
    have := congrArg (fun z => z.testBit n) e
    simp only [Nat.testBit_and, Nat.testBit_two_pow_self, Bool.and_true, Nat.zero_testBit] at this
    rw [h] at this; cases this
theorem hasBits (x : E) (n : Nat) (hn : n < 128) : ((Go.bits .or .u64 (Go.bits .and .u64 (lo x) (lo (bitE n))) (Go.bits .and .u64 (hi x) (hi (bitE n)))) != 0) = (val x).testBit n := by
  obtain ⟨h1, h2⟩ := z4r hn
  have hx1 := z18 x.1
  have hx2 := z18 x.2
  have hQ : Q 6 = 2 ^ 64 := rfl
  rw [hQ] at hx1 hx2
  have hv : val x = 2 ^ 64 * val x.1 + val x.2 := by rw [z1s, hQ, Nat.mul_comm]
  rw [h1, h2, hv]
  unfold hi lo
  by_cases c : n < 64
  · rw [if_pos c, if_pos c]
    have hp : 2 ^ n < 2 ^ 64 := Nat.pow_lt_pow_right (by decide) c
    have z : (0 : Int) = ((0 : Nat) : Int) := rfl
    rw [z, z1T _ _ hx2 hp, z1T _ _ hx1 (by decide), z3B _ _ (Nat.and_lt_two_pow _ hp) (Nat.and_lt_two_pow _ (by decide)), Nat.and_zero, Nat.or_zero]
    rw [Nat.testBit_two_pow_mul_add _ hx2, if_pos c, Bool.eq_iff_iff, ← z3z, bne_iff_ne]
    exact ⟨fun h e => h (by rw [e]), fun h e => h (by exact_mod_cast e)⟩
  · rw [if_neg c, if_neg c]
    have hp : 2 ^ (n - 64) < 2 ^ 64 := Nat.pow_lt_pow_right (by decide) (by omega)
    have z : (0 : Int) = ((0 : Nat) : Int) := rfl
    rw [z, z1T _ _ hx1 hp, z1T _ _ hx2 (by decide), z3B _ _ (Nat.and_lt_two_pow _ (by decide)) (Nat.and_lt_two_pow _ hp), Nat.and_zero, Nat.zero_or]
    rw [Nat.testBit_two_pow_mul_add _ hx2, if_neg c, Bool.eq_iff_iff, ← z3z, bne_iff_ne]
    exact ⟨fun h e => h (by rw [e]), fun h e => h (by exact_mod_cast e)⟩
theorem z5f (x : E) (n : Nat) (hn : n < 128) : Ev (fun k => zt.f k (hi x) (lo x) (n : Int)) ((val x).testBit n) := by
  unfold zt.f
  exact Ev.bnd (z3i n hn) (Ev.ret' (hasBits x n hn))
theorem and_one (n j : Nat) (hn : n < 2 ^ 63) (hj : j ≤ 64) : Go.bits .and .i64 (shr .i64 (n : Int) (j : Int)) 1 = (((n / 2 ^ j) % 2 : Nat) : Int) := by
  rw [shr_i64 n j hj]
  have := z43 (n / 2 ^ j) 1 (Nat.lt_of_le_of_lt (Nat.div_le_self _ _) hn) (by decide)
  simpa using this
theorem prod_l1 (a b acc : E) (n : Nat) (hn : n < 128) {R : Int × Int} (hk : Ev (fun k => zh.l0 k ((n + 1 : Nat) : Int) (hi a) (lo a) (hi b) (lo b) (hi (acc + gp 7 7 n * a)) (lo (acc + gp 7 7 n * a))) R) :
    ∀ (d j : Nat), j + d = 7 → Ev (fun k => zh.l1 k (n : Int) (j : Int) (hi a) (lo a) (hi b) (lo b) (hi acc) (lo acc) (hi (gp 7 j n * a)) (lo (gp 7 j n * a))) R := by
  intro d
  induction d with
  | zero =>
    intro j hj
    have : j = 7 := by omega
    subst this
    refine Ev.step (fun k => by rw [zh.l1]) (Ev.neg (by decide) (Ev.bnd0 (z3h acc _) ?_))
    simp only [z1v hn (by decide)]
    exact hk
  | succ d ih =>
    intro j hj
    have hu : IntKind.u64.wrap (j : Int) = (j : Int) := z2b (by omega) (by omega)
    have hih := ih (j + 1) (by omega)
    refine Ev.step (fun k => by rw [zh.l1]) (Ev.pos (by omega) ?_)
    simp only [hu, and_one n j (Nat.lt_trans hn (by decide)) (by omega), z1v (show j < 7 by omega) (by decide)]
    refine Ev.pos (Int.natCast_nonneg _) ?_
    have hgp : gp 7 (j + 1) n = (if n.testBit j then of 7 (val (gen (j + 1))) else 1) * gp 7 j n := rfl
    have htb : n.testBit j = decide ((n / 2 ^ j) % 2 = 1) := by rw [Nat.testBit_eq_decide_div_mod_eq]
    by_cases c : (n / 2 ^ j) % 2 = 1
    · refine Ev.pos (by omega) (Ev.bnd (Times_ev j (by omega) _) ?_)
      rw [hgp, htb, decide_eq_true c, if_pos rfl, mul_assoc] at hih
      exact hih
    · refine Ev.neg (by omega) ?_
      rw [hgp, htb, decide_eq_false c, if_neg (by decide), one_mul] at hih
      exact hih
theorem prod_l0 (a b : E) : ∀ (d n : Nat), n + d = 128 → Ev (fun k => zh.l0 k (n : Int) (hi a) (lo a) (hi b) (lo b) (hi (of 7 (val b % 2 ^ n) * a)) (lo (of 7 (val b % 2 ^ n) * a))) (hi (b * a), lo (b * a)) := by
  intro d
  induction d with
  | zero =>
    intro n hn
    have : n = 128 := by omega
    subst this
    have hb : val b % 2 ^ 128 = val b := Nat.mod_eq_of_lt (by have := z18 b; rw [z37] at this; exact this)
    rw [hb, z1w]
    exact Ev.step (fun k => by rw [zh.l0]) (Ev.neg (by decide) (Ev.ret _))
  | succ d ih =>
    intro n hn
    have hn' : n < 128 := by omega
    have hih := ih (n + 1) (by omega)
    rw [z4C (val b) n (z18 b) (by simpa using hn')] at hih
    refine Ev.step (fun k => by rw [zh.l0]) (Ev.pos (by omega) (Ev.bnd (z5f b n hn') ?_))
    cases c : (val b).testBit n with
    | true =>
      refine Ev.pos rfl ?_
      rw [c, if_pos rfl, add_mul, ← gp_bit 7 n (by simpa using hn')] at hih
      have := prod_l1 a b _ n hn' hih 7 0 (by omega)
      have e0 : gp 7 0 n * a = a := one_mul a
      rw [e0] at this
      exact this
    | false =>
      refine Ev.neg (by decide) ?_
      rw [c, if_neg (by decide), add_zero] at hih
      simp only [z1v hn' (by decide)]
      exact hih
theorem Product_ev (x y : E) : Ev (fun k => zh.f k (hi x) (lo x) (hi y) (lo y)) (hi (x * y), lo (x * y)) := by
  unfold zh.f
  have := prod_l0 x y 128 0 (by decide)
  rw [Nat.pow_zero, Nat.mod_one, z1W, zero_mul, z2o, z2q, mul_comm y x] at this
  exact this
end Go.Proofs.Ytngcaphdkgihmaa.Sp
namespace Go.Proofs.Ytngcaphdkgihmaa.P
open Go.RowKit Go.Proofs.YtngcaphdkgihmaaW.PrintWords Go.Proofs.YtngcaphdkgihmaaW.PrintLast Go.Proofs.YtngcaphdkgihmaaW.PrintMore
attribute [local go_sem] zU zW z15 z16 zQ zR zV zX   -- for this text's walks alone
set_option linter.unusedVariables false
set_option linter.unusedSimpArgs false
def zr.f (a0 : Int) : Option (Int):=(some (([1,2,4,8,16,32,64,128] : List Int) : List Int)).bind fun y101=>(if 0 ≤ a0 then (if a0 < (y101.length : Int) then (some (rd y101 a0)) else (none)) else (none))
set_option maxHeartbeats 8000000 in
set_option maxRecDepth 100000 in
theorem zr.calls (a0 : Int) (r : Int) (w : World) (h : zr.f a0 = some r) :
 Calls Try.prog 72 #[.int .i64 a0] w fun e w'=>e = .returned (.int .i64 r) ∧ Below w.heap.size w w':=by
 have HB:=z3.mk (Below.refl w.heap.size w)
 have H : ((some (([1,2,4,8,16,32,64,128] : List Int) : List Int)).bind fun y101=>(if 0 ≤ a0 then (if a0 < (y101.length : Int) then (some (rd y101 a0)) else (none)) else (none))) = some r:=h
 clear h
 obtain ⟨y101,hy101⟩ : ∃ y_ : List Int,y_ = (([1,2,4,8,16,32,64,128] : List Int)):=⟨_,rfl⟩
 replace H : (if 0 ≤ a0 then (if a0 < (y101.length : Int) then (some (rd y101 a0)) else (none)) else (none)) = some r:=by first|(rw [hy101];with_reducible exact H)|(have H2_:=(Option.bind_some _ _).symm.trans H;rw [hy101];with_reducible exact H2_)|(have H2_:=(Option.bind_some _ _).symm.trans H;with_reducible exact H2_)|with_reducible exact H|(rw [hy101];exact H)|exact H
 have Ny101:=z3.mk hy101
 clear hy101
 by_cases c2 : 0 ≤ a0
 rotate_left
 · rw [if_neg c2] at H
   exact absurd H (by simp)
 rw [if_pos c2] at H
 have c2b0 : decide (0 ≤ a0) = true:=decide_eq_true c2
 clear c2
 by_cases c3 : a0 < (y101.length : Int)
 rotate_left
 · rw [if_neg c3] at H
   exact absurd H (by simp)
 rw [if_pos c3] at H
 have c3b0 : decide (a0 < (y101.length : Int)) = true:=decide_eq_true c3
 clear c3
 obtain rfl:=Option.some.inj H
 go_enter Try.func72,Try.ntmps72
 go_wp2_with (first|((with_reducible refine zA (N:=4) rfl ?_);refine Kd.z24 (Kd.int .i64) _ 3 ?hg (N:=4) ?hd (xs:=([1,2,4,8,16,32,64,128] : List Int)) (inner:=[.int .i64 1,.int .i64 2,.int .i64 4,.int .i64 8,.int .i64 16,.int .i64 32,.int .i64 64,.int .i64 128]) (ok:=fun _=>True) (okp:=fun _=>True) ?hr ?hp (fun _ hk=>hk) trivial (Below.refl _ _) (Nat.le_refl _) (by simp) ?_;(case hd=>rfl);(case hg=>rfl);(case hr=>first|(go_simp;done)|(go_simp;rfl));(case hp=>exact (Reps.one (show Kd.M (Kd.int .i64) _ _ _ 1 [.int .i64 1] from rfl) (Reps.one (show Kd.M (Kd.int .i64) _ _ _ 2 [.int .i64 2] from rfl) (Reps.one (show Kd.M (Kd.int .i64) _ _ _ 4 [.int .i64 4] from rfl) (Reps.one (show Kd.M (Kd.int .i64) _ _ _ 8 [.int .i64 8] from rfl) (Reps.one (show Kd.M (Kd.int .i64) _ _ _ 16 [.int .i64 16] from rfl) (Reps.one (show Kd.M (Kd.int .i64) _ _ _ 32 [.int .i64 32] from rfl) (Reps.one (show Kd.M (Kd.int .i64) _ _ _ 64 [.int .i64 64] from rfl) (Reps.one (show Kd.M (Kd.int .i64) _ _ _ 128 [.int .i64 128] from rfl) (Reps.none _ _))))))))));intro v102 w4 ho5 hb hg_ hnew_;clear hg_ hnew_;(first|rw [← Ny101.out] at ho5|(simp only [Int.reduceToNat] at ho5;rw [← Ny101.out] at ho5));have n0_:=z3.mk (Kd.z17 ho5 (zc (by repeat (first|(with_reducible first|exact HB.out|apply z2|apply z0|apply z1)|exact HB.out))));have n1_:=z3.mk (za (by repeat (first|(with_reducible first|exact HB.out|apply z2|apply z0|apply z1)|exact HB.out)) hb);clear HB;have HO103:=n0_;have HB:=n1_;clear n0_ n1_;clear hb ho5;obtain ⟨Ao6,co6,eo6⟩:=Kd.z10 HO103.out;subst eo6;have p104 : 0 ≤ (a0 : Int):=of_decide_eq_true (by first|(with_reducible assumption)|assumption);have q104 : a0 < (y101.length : Int):=of_decide_eq_true (by first|(with_reducible assumption)|assumption);obtain ⟨ad104,e104,hx104_0⟩:=Kd.z1U (Kd.zN HO103.out).2.2 a0 p104 q104;cases e104;replace p104:=eq_true p104;replace q104:=eq_true q104))
 go_ret
 exact ⟨by first|rfl|(simp [zf,zg] <;> rfl)|(simp [*,zf,zg] <;> rfl),by repeat (first|(with_reducible first|exact HB.out|apply z2|apply z0|apply z1)|exact HB.out)⟩
end Go.Proofs.Ytngcaphdkgihmaa.P
namespace Go.Proofs.Ytngcaphdkgihmaa.P
open Go.RowKit Go.Proofs.YtngcaphdkgihmaaW.PrintWords Go.Proofs.YtngcaphdkgihmaaW.PrintLast Go.Proofs.YtngcaphdkgihmaaW.PrintMore
attribute [local go_sem] zU zW z15 z16 zQ zR zV zX   -- for this text's walks alone
set_option linter.unusedVariables false
set_option linter.unusedSimpArgs false
mutual
def zb.j0 : Nat → Int → Int → List (S61) → List (S61) → Bool → Option ((List (S61)) × Int)
 | 0,_,_,_,_,_=>none
 | k + 1,x0,x1,x2,x8,x23=>if x23 = true then (some (([] : List (S61)),1)) else ((zr.f x1).bind fun t101=>((zr.f x0).bind fun t102=>(if t102 = 0 then (none) else (if (wrap64 (Int.tdiv t101 t102)) = 0 then (none) else (if ((x2.length : Int) % (wrap64 (Int.tdiv t101 t102))) = 0 then ((zn.f k x0 x2).bind fun t103=>(if t103 = true then (zb.l0 k x0 x1 x2 x8 (wrap64 (Int.tdiv t101 t102)) 0) else (some (([] : List (S61)),5)))) else (some (([] : List (S61)),6)))))))
def zb.l0 : Nat → Int → Int → List (S61) → List (S61) → Int → Int → Option ((List (S61)) × Int)
 | 0,_,_,_,_,_,_=>none
 | k + 1,x0,x1,x2,x8,x9,x10=>if x10 < (x2.length : Int) then (zb.l1 k x0 x1 x2 x8 x9 x10 0 0 0) else (some (x8,0))
def zb.l1 : Nat → Int → Int → List (S61) → List (S61) → Int → Int → Int → Int → Int → Option ((List (S61)) × Int)
 | 0,_,_,_,_,_,_,_,_,_=>none
 | k + 1,x0,x1,x2,x8,x9,x10,x12,x105000,x105001=>(zr.f x1).bind fun t105=>(if x12 < t105 then ((zr.f x0).bind fun t109=>(if t109 = 0 then (none) else (if 0 ≤ (wrap64 (x10 + (wrap64 (Int.tdiv x12 t109)))) then (if (wrap64 (x10 + (wrap64 (Int.tdiv x12 t109)))) < (x2.length : Int) then ((zr.f x0).bind fun t111=>(if t111 = 0 then (none) else ((zt.f k ((z14 x2 (wrap64 (x10 + (wrap64 (Int.tdiv x12 t109))))).f0) ((z14 x2 (wrap64 (x10 + (wrap64 (Int.tdiv x12 t109))))).f1) (Int.tmod x12 t111)).bind fun t112=>(if t112 = true then ((zi.f k x12).bind fun bt113=>((zM.f x105000 x105001 bt113.1 bt113.2).bind fun bt115=>(zb.l1 k x0 x1 x2 x8 x9 x10 (wrap64 (x12 + 1)) bt115.1 bt115.2))) else (zb.l1 k x0 x1 x2 x8 x9 x10 (wrap64 (x12 + 1)) x105000 x105001))))) else (none)) else (none)))) else (if x8.length < 8796093022208 then (zb.l0 k x0 x1 x2 (x8 ++ [(⟨x105000,x105001⟩ : S61)]) x9 (wrap64 (x10 + x9))) else (none)))
end
def zb.f (k : Nat) (a0 : Int) (a1 : Int) (l2 : List (S61)) : Option ((List (S61)) × Int):=if a0 < 0 then (zb.j0 k a0 a1 l2 ([] : List (S61)) true) else (if a1 > 7 then (zb.j0 k a0 a1 l2 ([] : List (S61)) true) else (zb.j0 k a0 a1 l2 ([] : List (S61)) (decide (a1 < a0))))
theorem zb.z12 : ∀ k,(∀ y0 y1 y2 y3 y4,LeO (zb.j0 k y0 y1 y2 y3 y4) (zb.j0 (k + 1) y0 y1 y2 y3 y4)) ∧ (∀ y0 y1 y2 y3 y4 y5,LeO (zb.l0 k y0 y1 y2 y3 y4 y5) (zb.l0 (k + 1) y0 y1 y2 y3 y4 y5)) ∧ (∀ y0 y1 y2 y3 y4 y5 y6 y7 y8,LeO (zb.l1 k y0 y1 y2 y3 y4 y5 y6 y7 y8) (zb.l1 (k + 1) y0 y1 y2 y3 y4 y5 y6 y7 y8))
 | 0=>⟨fun _ _ _ _ _ r h=>by simp [zb.j0] at h,fun _ _ _ _ _ _ r h=>by simp [zb.l0] at h,fun _ _ _ _ _ _ _ _ _ r h=>by simp [zb.l1] at h⟩
 | k + 1=>by
  obtain ⟨ih0,ih1,ih2⟩:=zb.z12 k
  refine ⟨?_,?_,?_⟩
  · intro y0 y1 y2 y3 y4
    unfold zb.j0
    repeat' first
    | (with_reducible exact ih0 _ _ _ _ _)
    | (with_reducible exact ih1 _ _ _ _ _ _)
    | (with_reducible exact ih2 _ _ _ _ _ _ _ _ _)
    | (with_reducible exact zi.mono _ _)
    | (with_reducible exact zt.mono _ _ _ _)
    | (with_reducible exact zn.mono _ _ _)
    | (with_reducible exact LeO.refl _)
    | (with_reducible exact LeO.none _)
    | (with_reducible refine LeO.ite ?_ ?_)
    | (with_reducible refine LeO.bind ?_ (fun _=>?_))
    | exact ih0 _ _ _ _ _
    | exact ih1 _ _ _ _ _ _
    | exact ih2 _ _ _ _ _ _ _ _ _
    | exact zi.mono _ _
    | exact zt.mono _ _ _ _
    | exact zn.mono _ _ _
    | exact LeO.none _
    | refine LeO.ite ?_ ?_
    | refine LeO.bind ?_ (fun _=>?_)
  · intro y0 y1 y2 y3 y4 y5
    unfold zb.l0
    repeat' first
    | (with_reducible exact ih0 _ _ _ _ _)
    | (with_reducible exact ih1 _ _ _ _ _ _)
    | (with_reducible exact ih2 _ _ _ _ _ _ _ _ _)
    | (with_reducible exact zi.mono _ _)
    | (with_reducible exact zt.mono _ _ _ _)
    | (with_reducible exact zn.mono _ _ _)
    | (with_reducible exact LeO.refl _)
    | (with_reducible exact LeO.none _)
    | (with_reducible refine LeO.ite ?_ ?_)
    | (with_reducible refine LeO.bind ?_ (fun _=>?_))
    | exact ih0 _ _ _ _ _
    | exact ih1 _ _ _ _ _ _
    | exact ih2 _ _ _ _ _ _ _ _ _
    | exact zi.mono _ _
    | exact zt.mono _ _ _ _
    | exact zn.mono _ _ _
    | exact LeO.none _
    | refine LeO.ite ?_ ?_
    | refine LeO.bind ?_ (fun _=>?_)
  · intro y0 y1 y2 y3 y4 y5 y6 y7 y8
    unfold zb.l1
    repeat' first
    | (with_reducible exact ih0 _ _ _ _ _)
    | (with_reducible exact ih1 _ _ _ _ _ _)
    | (with_reducible exact ih2 _ _ _ _ _ _ _ _ _)
    | (with_reducible exact zi.mono _ _)
    | (with_reducible exact zt.mono _ _ _ _)
    | (with_reducible exact zn.mono _ _ _)
    | (with_reducible exact LeO.refl _)
    | (with_reducible exact LeO.none _)
    | (with_reducible refine LeO.ite ?_ ?_)
    | (with_reducible refine LeO.bind ?_ (fun _=>?_))
    | exact ih0 _ _ _ _ _
    | exact ih1 _ _ _ _ _ _
    | exact ih2 _ _ _ _ _ _ _ _ _
    | exact zi.mono _ _
    | exact zt.mono _ _ _ _
    | exact zn.mono _ _ _
    | exact LeO.none _
    | refine LeO.ite ?_ ?_
    | refine LeO.bind ?_ (fun _=>?_)
theorem zb.mono : ∀ a0 a1 a2 k,LeO (zb.f k a0 a1 a2) (zb.f (k + 1) a0 a1 a2):=by
 intro a0 a1 a2 k
 obtain ⟨ih0,ih1,ih2⟩:=zb.z12 k
 unfold zb.f
 repeat' first
  | (with_reducible exact ih0 _ _ _ _ _)
  | (with_reducible exact ih1 _ _ _ _ _ _)
  | (with_reducible exact ih2 _ _ _ _ _ _ _ _ _)
  | (with_reducible exact zi.mono _ _)
  | (with_reducible exact zt.mono _ _ _ _)
  | (with_reducible exact zn.mono _ _ _)
  | (with_reducible exact LeO.refl _)
  | (with_reducible exact LeO.none _)
  | (with_reducible refine LeO.ite ?_ ?_)
  | (with_reducible refine LeO.bind ?_ (fun _=>?_))
  | exact ih0 _ _ _ _ _
  | exact ih1 _ _ _ _ _ _
  | exact ih2 _ _ _ _ _ _ _ _ _
  | exact zi.mono _ _
  | exact zt.mono _ _ _ _
  | exact zn.mono _ _ _
  | exact LeO.none _
  | refine LeO.ite ?_ ?_
  | refine LeO.bind ?_ (fun _=>?_)
def zb.T16 : Bool × List (List Nat × List Nat):=(true,[([],[]),([],[]),([],[]),([],[]),([3],[3]),([2,4],[2,4]),([1,5],[1,5]),([0,6],[0,6]),([7],[7]),([],[]),([],[]),([10,4],[10]),([9,11],[9,11]),([8,12,11],[8,12])])
def zb.B16 : List Nat:=[0,0,0,0,8,28,62,127,255,0,0,1048,3608,8191]
theorem zb.tab16 : rtab .any (opsOf Try.f31 16) = zb.T16:=by kernel_rfl
theorem zb.bits16 : waitsOk zb.T16.2 zb.B16 = true:=by kernel_rfl
set_option maxHeartbeats 8000000 in
set_option maxRecDepth 100000 in
theorem zb.calls (k : Nat) (a0 : Int) (a1 : Int) (A2 : Option Addr) (c2 : Nat) (l2 : List (S61)) (r1 : List (S61)) (r2 : Int) (w : World) (hr2 : Kd.C k61 w A2 l2.length l2) (hc2 : l2.length ≤ c2) (h : zb.f k a0 a1 l2 = some (r1,r2)) :
 Calls Try.prog 31 #[.int .i64 a0,.int .i64 a1,.slice A2 l2.length c2] w fun e w'=>∃ v0_ : Value,e = .returned (.tuple #[v0_,.int .i64 r2]) ∧ Kd.R k61 61 w' w.heap.size (fun _=>True) v0_ r1 ∧ Below w.heap.size w w':=by
 have hu61:=Try.underlying61
 have HR2:=z3.mk hr2
 have HC2:=z3.mk hc2
 clear hr2 hc2
 have HB:=z3.mk (Below.refl w.heap.size w)
 have H : (if a0 < 0 then (zb.j0 k a0 a1 l2 ([] : List (S61)) true) else (if a1 > 7 then (zb.j0 k a0 a1 l2 ([] : List (S61)) true) else (zb.j0 k a0 a1 l2 ([] : List (S61)) (decide (a1 < a0))))) = some (r1,r2):=h
 clear h
 have HC4:=z3.mk H
 clear H
 go_enter Try.func31,Try.ntmps31
 go_upto_region 2 with (fail)
 go_cut [23] (fun v23 wc=>∃ (kq : Nat) (x23_3 : Bool),v23 = .bool x23_3 ∧ z3 (zb.j0 kq a0 a1 l2 ([] : List (S61)) x23_3 = some (r1,r2)) ∧ z3 (kq ≤ k) ∧ z3 (Kd.R k61 61 wc w.heap.size (fun _=>True) (.slice none 0 0) ([] : List (S61))) ∧ z3 (Below w.heap.size w wc))
 case first =>
  have H:=HC4.out
  clear HC4
  by_cases c5 : a0 < 0
  · rw [if_pos c5] at H
    have c5b0 : decide (a0 < 0) = true:=decide_eq_true c5
    clear c5
    (first|rw [c5b0]|(simp only [zC,zK];rw [c5b0])|skip)
    have H':=z3.mk H
    clear H
    go_wp2
    go_meet
    case rel=>exact ⟨_,(true),(by first|rfl|(simp;done)|(simp [*];done)),H',⟨by first|omega|exact Nat.le_refl _⟩,⟨by first|exact Kd.z1G _ _ _ _ _|exact Kd.z1P _ _ _ _ _|exact Kd.z1S _ _ _ _ _|exact Kd.z1Q _ _ _ _ _|exact Kd.z1R _ _ _ _ _⟩,⟨by repeat (first|(with_reducible first|exact HB.out|apply z2|apply z0|apply z1)|exact HB.out)⟩⟩
  rw [if_neg c5] at H
  have c5b0 : decide (a0 < 0) = false:=decide_eq_false c5
  clear c5
  (first|rw [c5b0]|(simp only [zC,zK];rw [c5b0])|skip)
  by_cases c6 : a1 > 7
  rotate_left
  · rw [if_neg c6] at H
    have c6b0 : decide (7 < a1) = false:=decide_eq_false c6
    clear c6
    have H':=z3.mk H
    clear H
    go_wp2
    go_meet
    case rel=>exact ⟨_,(decide (a1 < a0)),(by first|rfl|(simp;done)|(simp [*];done)),H',⟨by first|omega|exact Nat.le_refl _⟩,⟨by first|exact Kd.z1G _ _ _ _ _|exact Kd.z1P _ _ _ _ _|exact Kd.z1S _ _ _ _ _|exact Kd.z1Q _ _ _ _ _|exact Kd.z1R _ _ _ _ _⟩,⟨by repeat (first|(with_reducible first|exact HB.out|apply z2|apply z0|apply z1)|exact HB.out)⟩⟩
  rw [if_pos c6] at H
  have c6b0 : decide (7 < a1) = true:=decide_eq_true c6
  clear c6
  have H':=z3.mk H
  clear H
  go_wp2
  go_meet
  case rel=>exact ⟨_,(true),(by first|rfl|(simp;done)|(simp [*];done)),H',⟨by first|omega|exact Nat.le_refl _⟩,⟨by first|exact Kd.z1G _ _ _ _ _|exact Kd.z1P _ _ _ _ _|exact Kd.z1S _ _ _ _ _|exact Kd.z1Q _ _ _ _ _|exact Kd.z1R _ _ _ _ _⟩,⟨by repeat (first|(with_reducible first|exact HB.out|apply z2|apply z0|apply z1)|exact HB.out)⟩⟩
 case rest =>
  clear HC4
  (try clear c2);(try clear p2);(try clear c3);(try clear c5);(try clear c5b0);(try clear c6);(try clear c6b0)
  obtain ⟨kq,x23_3,rfl,HA,HJ3,HO_8,HB⟩:=hcut
  cases kq with
  | zero=>exact absurd HA.out (by simp [zb.j0])
  | succ kj3 =>
   have H:=HA.out
   clear HA
   simp only [zb.j0] at H
   by_cases c7 : x23_3 = true
   · subst c7
     have H1 : (some (([] : List (S61)),1)) = some (r1,r2):=by rw [if_pos rfl] at H;exact H
     clear H
     have H:=H1
     clear H1
     simp only [Option.some.injEq,Prod.mk.injEq] at H
     obtain ⟨rfl,rfl⟩:=H
     go_wp2
     go_ret2
     exact ⟨_,by first|rfl|(simp [zf,zg] <;> rfl)|(simp [*,zf,zg] <;> rfl),by first|exact Kd.z1G _ _ _ _ _|exact Kd.z1P _ _ _ _ _|exact Kd.z1S _ _ _ _ _|exact Kd.z1Q _ _ _ _ _|exact Kd.z1R _ _ _ _ _,by repeat (first|(with_reducible first|exact HB.out|apply z2|apply z0|apply z1)|exact HB.out)⟩
   replace c7:=Bool.eq_false_iff.mpr c7
   subst c7
   have H1 : ((zr.f a1).bind fun t101=>((zr.f a0).bind fun t102=>(if t102 = 0 then (none) else (if (wrap64 (Int.tdiv t101 t102)) = 0 then (none) else (if ((l2.length : Int) % (wrap64 (Int.tdiv t101 t102))) = 0 then ((zn.f kj3 a0 l2).bind fun t103=>(if t103 = true then (zb.l0 kj3 a0 a1 l2 ([] : List (S61)) (wrap64 (Int.tdiv t101 t102)) 0) else (some (([] : List (S61)),5)))) else (some (([] : List (S61)),6))))))) = some (r1,r2):=by rw [if_neg (show ¬ (false = true) by decide)] at H;exact H
   clear H
   have H:=H1
   clear H1
   replace H:=Option.bind_eq_some_iff.mp H
   obtain ⟨t101,A80,H⟩:=H
   replace H : ((zr.f a0).bind fun t102=>(if t102 = 0 then (none) else (if (wrap64 (Int.tdiv t101 t102)) = 0 then (none) else (if ((l2.length : Int) % (wrap64 (Int.tdiv t101 t102))) = 0 then ((zn.f kj3 a0 l2).bind fun t103=>(if t103 = true then (zb.l0 kj3 a0 a1 l2 ([] : List (S61)) (wrap64 (Int.tdiv t101 t102)) 0) else (some (([] : List (S61)),5)))) else (some (([] : List (S61)),6)))))) = some (r1,r2):=H
   have A8:=z3.mk A80
   clear A80
   replace H:=Option.bind_eq_some_iff.mp H
   obtain ⟨t102,A90,H⟩:=H
   replace H : (if t102 = 0 then (none) else (if (wrap64 (Int.tdiv t101 t102)) = 0 then (none) else (if ((l2.length : Int) % (wrap64 (Int.tdiv t101 t102))) = 0 then ((zn.f kj3 a0 l2).bind fun t103=>(if t103 = true then (zb.l0 kj3 a0 a1 l2 ([] : List (S61)) (wrap64 (Int.tdiv t101 t102)) 0) else (some (([] : List (S61)),5)))) else (some (([] : List (S61)),6))))) = some (r1,r2):=H
   have A9:=z3.mk A90
   clear A90
   by_cases c10 : t102 = 0
   · rw [if_pos c10] at H
     exact absurd H (by simp)
   rw [if_neg c10] at H
   have c10b0 : (t102 == 0) = false:=beq_eq_false_iff_ne.mpr c10
   have c10b1 : (t102 != 0) = true:=bne_iff_ne.mpr c10
   by_cases c11 : (wrap64 (Int.tdiv t101 t102)) = 0
   · rw [if_pos c11] at H
     exact absurd H (by simp)
   rw [if_neg c11] at H
   have c11b0 : ((wrap64 (Int.tdiv t101 t102)) == 0) = false:=beq_eq_false_iff_ne.mpr c11
   have c11b1 : ((wrap64 (Int.tdiv t101 t102)) != 0) = true:=bne_iff_ne.mpr c11
   by_cases c12 : ((l2.length : Int) % (wrap64 (Int.tdiv t101 t102))) = 0
   rotate_left
   · rw [if_neg c12] at H
     have c12b0 : (((l2.length : Int) % (wrap64 (Int.tdiv t101 t102))) == 0) = false:=beq_eq_false_iff_ne.mpr c12
     have c12b1 : (((l2.length : Int) % (wrap64 (Int.tdiv t101 t102))) != 0) = true:=bne_iff_ne.mpr c12
     simp only [Option.some.injEq,Prod.mk.injEq] at H
     obtain ⟨rfl,rfl⟩:=H
     go_wp2_with (first|((with_reducible refine zq (f:=72) rfl ?_);refine goesL_ (some 25) rfl rfl Try.func72 (by kernel_rfl) rfl #[.int .i64 a1] rfl (by (try simp only [List.map_toArray,List.map_cons,List.map_nil]);first|done|rfl|(simp only [List.length_drop,List.length_take];rfl)) ?_;(with_reducible refine (zr.calls a1 t101 _ A8.out).mono ?_);rintro e w55 ⟨rfl,hb⟩;refine ⟨_,rfl,?_⟩;have n0_:=z3.mk (Kd.zz (by (with_reducible repeat (first|apply Kd.zl|apply Kd.zm|apply Kd.zw));exact HO_8.out) hb);have n1_:=z3.mk (za (by repeat (first|(with_reducible first|exact HB.out|apply z2|apply z0|apply z1)|exact HB.out)) hb);clear HO_8;clear HB;have HO_8:=n0_;have HB:=n1_;clear n0_ n1_;(try clear hb);(try clear hb2);(try clear hk);(try clear hi))|((with_reducible refine zq (f:=72) rfl ?_);refine goesL_ (some 27) rfl rfl Try.func72 (by kernel_rfl) rfl #[.int .i64 a0] rfl (by (try simp only [List.map_toArray,List.map_cons,List.map_nil]);first|done|rfl|(simp only [List.length_drop,List.length_take];rfl)) ?_;(with_reducible refine (zr.calls a0 t102 _ A9.out).mono ?_);rintro e w56 ⟨rfl,hb⟩;refine ⟨_,rfl,?_⟩;have n0_:=z3.mk (Kd.zz (by (with_reducible repeat (first|apply Kd.zl|apply Kd.zm|apply Kd.zw));exact HO_8.out) hb);have n1_:=z3.mk (za (by repeat (first|(with_reducible first|exact HB.out|apply z2|apply z0|apply z1)|exact HB.out)) hb);clear HO_8;clear HB;have HO_8:=n0_;have HB:=n1_;clear n0_ n1_;(try clear hb);(try clear hb2);(try clear hk);(try clear hi)))
     go_ret2
     exact ⟨_,by first|rfl|(simp [zf,zg] <;> rfl)|(simp [*,zf,zg] <;> rfl),by first|exact Kd.z1G _ _ _ _ _|exact Kd.z1P _ _ _ _ _|exact Kd.z1S _ _ _ _ _|exact Kd.z1Q _ _ _ _ _|exact Kd.z1R _ _ _ _ _,by repeat (first|(with_reducible first|exact HB.out|apply z2|apply z0|apply z1)|exact HB.out)⟩
   rw [if_pos c12] at H
   have c12b0 : (((l2.length : Int) % (wrap64 (Int.tdiv t101 t102))) == 0) = true:=beq_iff_eq.mpr c12
   have c12b1 : (((l2.length : Int) % (wrap64 (Int.tdiv t101 t102))) != 0) = false:=bne_eq_false_iff_eq.mpr c12
   clear c12
   replace H:=Option.bind_eq_some_iff.mp H
   obtain ⟨t103,A130,H⟩:=H
   replace H : (if t103 = true then (zb.l0 kj3 a0 a1 l2 ([] : List (S61)) (wrap64 (Int.tdiv t101 t102)) 0) else (some (([] : List (S61)),5))) = some (r1,r2):=H
   have A13:=z3.mk A130
   clear A130
   by_cases c14 : t103 = true
   rotate_left
   · replace c14:=Bool.eq_false_iff.mpr c14
     subst c14
     have H1 : (some (([] : List (S61)),5)) = some (r1,r2):=by rw [if_neg (show ¬ (false = true) by decide)] at H;exact H
     clear H
     have H:=H1
     clear H1
     simp only [Option.some.injEq,Prod.mk.injEq] at H
     obtain ⟨rfl,rfl⟩:=H
     go_wp2_with (first|((with_reducible refine zq (f:=72) rfl ?_);refine goesL_ (some 25) rfl rfl Try.func72 (by kernel_rfl) rfl #[.int .i64 a1] rfl (by (try simp only [List.map_toArray,List.map_cons,List.map_nil]);first|done|rfl|(simp only [List.length_drop,List.length_take];rfl)) ?_;(with_reducible refine (zr.calls a1 t101 _ A8.out).mono ?_);rintro e w52 ⟨rfl,hb⟩;refine ⟨_,rfl,?_⟩;have n0_:=z3.mk (Kd.zz (by (with_reducible repeat (first|apply Kd.zl|apply Kd.zm|apply Kd.zw));exact HO_8.out) hb);have n1_:=z3.mk (za (by repeat (first|(with_reducible first|exact HB.out|apply z2|apply z0|apply z1)|exact HB.out)) hb);clear HO_8;clear HB;have HO_8:=n0_;have HB:=n1_;clear n0_ n1_;(try clear hb);(try clear hb2);(try clear hk);(try clear hi))|((with_reducible refine zq (f:=72) rfl ?_);refine goesL_ (some 27) rfl rfl Try.func72 (by kernel_rfl) rfl #[.int .i64 a0] rfl (by (try simp only [List.map_toArray,List.map_cons,List.map_nil]);first|done|rfl|(simp only [List.length_drop,List.length_take];rfl)) ?_;(with_reducible refine (zr.calls a0 t102 _ A9.out).mono ?_);rintro e w53 ⟨rfl,hb⟩;refine ⟨_,rfl,?_⟩;have n0_:=z3.mk (Kd.zz (by (with_reducible repeat (first|apply Kd.zl|apply Kd.zm|apply Kd.zw));exact HO_8.out) hb);have n1_:=z3.mk (za (by repeat (first|(with_reducible first|exact HB.out|apply z2|apply z0|apply z1)|exact HB.out)) hb);clear HO_8;clear HB;have HO_8:=n0_;have HB:=n1_;clear n0_ n1_;(try clear hb);(try clear hb2);(try clear hk);(try clear hi))|((with_reducible refine zq (f:=46) rfl ?_);refine goesL_ (some 36) rfl rfl Try.func46 (by kernel_rfl) rfl #[.int .i64 a0,.slice A2 l2.length c2] rfl (by (try simp only [List.map_toArray,List.map_cons,List.map_nil]);first|done|rfl|(simp only [List.length_drop,List.length_take];rfl)) ?_;(with_reducible refine (zn.calls kj3 a0 _ _ l2 false _ ?side1 ?side2 A13.out).mono ?_);(case side1=>repeat (first|exact (Kd.z22 HR2.out HB.out)|(with_reducible refine Kd.z1p ?_ _)|(with_reducible refine Kd.z1q ?_ _)|(with_reducible refine Kd.z1z ?_)));(case side2=>exact HC2.out);rintro e w54 ⟨rfl,hb⟩;refine ⟨_,rfl,?_⟩;have n0_:=z3.mk (Kd.zz (by (with_reducible repeat (first|apply Kd.zl|apply Kd.zm|apply Kd.zw));exact HO_8.out) hb);have n1_:=z3.mk (za (by repeat (first|(with_reducible first|exact HB.out|apply z2|apply z0|apply z1)|exact HB.out)) hb);clear HO_8;clear HB;have HO_8:=n0_;have HB:=n1_;clear n0_ n1_;(try clear hb);(try clear hb2);(try clear hk);(try clear hi)))
     go_ret2
     exact ⟨_,by first|rfl|(simp [zf,zg] <;> rfl)|(simp [*,zf,zg] <;> rfl),by first|exact Kd.z1G _ _ _ _ _|exact Kd.z1P _ _ _ _ _|exact Kd.z1S _ _ _ _ _|exact Kd.z1Q _ _ _ _ _|exact Kd.z1R _ _ _ _ _,by repeat (first|(with_reducible first|exact HB.out|apply z2|apply z0|apply z1)|exact HB.out)⟩
   subst c14
   have H1 : (zb.l0 kj3 a0 a1 l2 ([] : List (S61)) (wrap64 (Int.tdiv t101 t102)) 0) = some (r1,r2):=by rw [if_pos rfl] at H;exact H
   clear H
   have H:=H1
   clear H1
   have H':=z3.mk H
   clear H
   go_wp2_with (first|((with_reducible refine zq (f:=72) rfl ?_);refine goesL_ (some 25) rfl rfl Try.func72 (by kernel_rfl) rfl #[.int .i64 a1] rfl (by (try simp only [List.map_toArray,List.map_cons,List.map_nil]);first|done|rfl|(simp only [List.length_drop,List.length_take];rfl)) ?_;(with_reducible refine (zr.calls a1 t101 _ A8.out).mono ?_);rintro e w15 ⟨rfl,hb⟩;refine ⟨_,rfl,?_⟩;have n0_:=z3.mk (Kd.zz (by (with_reducible repeat (first|apply Kd.zl|apply Kd.zm|apply Kd.zw));exact HO_8.out) hb);have n1_:=z3.mk (za (by repeat (first|(with_reducible first|exact HB.out|apply z2|apply z0|apply z1)|exact HB.out)) hb);clear HO_8;clear HB;have HO_8:=n0_;have HB:=n1_;clear n0_ n1_;(try clear hb);(try clear hb2);(try clear hk);(try clear hi))|((with_reducible refine zq (f:=72) rfl ?_);refine goesL_ (some 27) rfl rfl Try.func72 (by kernel_rfl) rfl #[.int .i64 a0] rfl (by (try simp only [List.map_toArray,List.map_cons,List.map_nil]);first|done|rfl|(simp only [List.length_drop,List.length_take];rfl)) ?_;(with_reducible refine (zr.calls a0 t102 _ A9.out).mono ?_);rintro e w16 ⟨rfl,hb⟩;refine ⟨_,rfl,?_⟩;have n0_:=z3.mk (Kd.zz (by (with_reducible repeat (first|apply Kd.zl|apply Kd.zm|apply Kd.zw));exact HO_8.out) hb);have n1_:=z3.mk (za (by repeat (first|(with_reducible first|exact HB.out|apply z2|apply z0|apply z1)|exact HB.out)) hb);clear HO_8;clear HB;have HO_8:=n0_;have HB:=n1_;clear n0_ n1_;(try clear hb);(try clear hb2);(try clear hk);(try clear hi))|((with_reducible refine zq (f:=46) rfl ?_);refine goesL_ (some 36) rfl rfl Try.func46 (by kernel_rfl) rfl #[.int .i64 a0,.slice A2 l2.length c2] rfl (by (try simp only [List.map_toArray,List.map_cons,List.map_nil]);first|done|rfl|(simp only [List.length_drop,List.length_take];rfl)) ?_;(with_reducible refine (zn.calls kj3 a0 _ _ l2 true _ ?side1 ?side2 A13.out).mono ?_);(case side1=>repeat (first|exact (Kd.z22 HR2.out HB.out)|(with_reducible refine Kd.z1p ?_ _)|(with_reducible refine Kd.z1q ?_ _)|(with_reducible refine Kd.z1z ?_)));(case side2=>exact HC2.out);rintro e w17 ⟨rfl,hb⟩;refine ⟨_,rfl,?_⟩;have n0_:=z3.mk (Kd.zz (by (with_reducible repeat (first|apply Kd.zl|apply Kd.zm|apply Kd.zw));exact HO_8.out) hb);have n1_:=z3.mk (za (by repeat (first|(with_reducible first|exact HB.out|apply z2|apply z0|apply z1)|exact HB.out)) hb);clear HO_8;clear HB;have HO_8:=n0_;have HB:=n1_;clear n0_ n1_;(try clear hb);(try clear hb2);(try clear hk);(try clear hi)))
   go_loopg [8,10] kj3 (fun kq v8 v10 w'=>∃ (x8_2 : List (S61)) (x10_2 : Int),v10 = .int .i64 x10_2 ∧ z3 (zb.l0 kq a0 a1 l2 x8_2 (wrap64 (Int.tdiv t101 t102)) x10_2 = some (r1,r2)) ∧ z3 (kq ≤ kj3) ∧ z3 (Kd.R k61 61 w' w.heap.size (fun _=>True) v8 x8_2) ∧ z3 (Below w.heap.size w w'))
   case atStart=>exact ⟨(([] : List (S61))),(0),(by first|rfl|(simp;done)|(simp [*];done)),H',⟨Nat.le_refl _⟩,⟨by (with_reducible repeat (first|apply Kd.zl|apply Kd.zm|apply Kd.zw));exact HO_8.out⟩,⟨by repeat (first|(with_reducible first|exact HB.out|apply z2|apply z0|apply z1)|exact HB.out)⟩⟩
   case round =>
    clear H'
    (try clear c1);(try clear c2);(try clear p2);(try clear c3);(try clear c4);(try clear c5);(try clear c5b0);(try clear c6);(try clear c6b0);(try clear p6);(try clear c7);(try clear c10);(try clear c10b0);(try clear c10b1);(try clear c11);(try clear c11b0);(try clear c11b1);(try clear c12);(try clear c12b0);(try clear c12b1);(try clear c14);(try clear p2)
    obtain ⟨x8_2,x10_2,rfl,HA,HK2,HO_8,HB⟩:=hrel
    cases gk with
    | zero=>exact absurd HA.out (by simp [zb.l0])
    | succ k2 =>
     have H:=HA.out
     clear HA
     simp only [zb.l0] at H
     by_cases c18 : x10_2 < (l2.length : Int)
     rotate_left
     · rw [if_neg c18] at H
       have c18b0 : decide (x10_2 < (l2.length : Int)) = false:=decide_eq_false c18
       clear c18
       simp only [Option.some.injEq,Prod.mk.injEq] at H
       obtain ⟨rfl,rfl⟩:=H
       go_wp2
       go_ret2
       exact ⟨_,by first|rfl|(simp [zf,zg] <;> rfl)|(simp [*,zf,zg] <;> rfl),by (with_reducible repeat (first|apply Kd.zl|apply Kd.zm|apply Kd.zw));exact HO_8.out,by repeat (first|(with_reducible first|exact HB.out|apply z2|apply z0|apply z1)|exact HB.out)⟩
     rw [if_pos c18] at H
     have c18b0 : decide (x10_2 < (l2.length : Int)) = true:=decide_eq_true c18
     clear c18
     have H':=z3.mk H
     clear H
     go_wp2_with (first|((with_reducible refine zA (N:=11) rfl ?_);refine zB ?hg (N:=11) ?hd (cs:=#[.int .u64 0,.int .u64 0]) (t:=61) ?hr ?_;(case hd=>rfl);(case hg=>rfl);(case hr=>first|(go_simp;done)|(go_simp;rfl));intro gb104 hg w19 hbox hb;have n0_:=z3.mk (Kd.zz (Kd.z2d (by (with_reducible repeat (first|apply Kd.zl|apply Kd.zm|apply Kd.zw));exact HO_8.out) gb104 (Nat.le_of_eq hg.symm)) hb);have n1_:=z3.mk (za (by repeat (first|(with_reducible first|exact HB.out|apply z2|apply z0|apply z1)|exact HB.out)) hb);have n2_:=z3.mk (hbox);have n3_:=z3.mk ((by rw [hg];exact (zc (by repeat (first|(with_reducible first|exact HB.out|apply z2|apply z0|apply z1)|exact HB.out))) : w.heap.size ≤ gb104));have n4_:=z3.mk ((by rw [hg];exact (zc (by repeat (first|(with_reducible first|exact HB.out|apply z2|apply z0|apply z1)|exact HB.out))) : w.heap.size ≤ gb104));clear HO_8;clear HB;have HO_8:=n0_;have HB:=n1_;have BK104:=n2_;have GW104:=n3_;have GE104:=n4_;clear n0_ n1_ n2_ n3_ n4_;clear hb hbox hg))
     go_loopg [12] k2 (fun kq v12 w'=>∃ (x12_3 : Int) (x105000_3 : Int) (x105001_3 : Int),v12 = .int .i64 x12_3 ∧ z3 (zb.l1 kq a0 a1 l2 x8_2 (wrap64 (Int.tdiv t101 t102)) x10_2 x12_3 x105000_3 x105001_3 = some (r1,r2)) ∧ z3 (kq ≤ k2) ∧ z3 (Kd.R k61 61 w' w.heap.size (fun k_=>k_ ≠ gb104) u8 x8_2) ∧ z3 (w'.heap[gb104]? = some (.cells #[.int .u64 x105000_3,.int .u64 x105001_3] 61 (0,0))) ∧ z3 (Below w.heap.size w w'))
     case atStart=>exact ⟨(0),(0),(0),(by first|rfl|(simp;done)|(simp [*];done)),H',⟨Nat.le_refl _⟩,⟨by (with_reducible repeat (first|apply Kd.zl|apply Kd.zm|apply Kd.zw));exact Kd.z1f HO_8.out (fun _ hk=>hk.2)⟩,⟨by (with_reducible repeat (first|refine z5 ?_ _|refine z7 ?_|refine z4 ?_ _));exact BK104.out⟩,⟨by repeat (first|(with_reducible first|exact HB.out|apply z2|apply z0|apply z1|refine z6 ?_ GE104.out)|exact HB.out)⟩⟩
     case round =>
      clear H'
      (try clear c1);(try clear c2);(try clear p2);(try clear c3);(try clear c4);(try clear c5);(try clear c5b0);(try clear c6);(try clear c6b0);(try clear p6);(try clear c7);(try clear c10);(try clear c10b0);(try clear c10b1);(try clear c11);(try clear c11b0);(try clear c11b1);(try clear c12);(try clear c12b0);(try clear c12b1);(try clear c14);(try clear c18);(try clear c18b0);(try clear p2);(try clear p6)
      obtain ⟨x12_3,x105000_3,x105001_3,rfl,HA,HK3,HO_8,BK104,HB⟩:=hrel
      cases gk with
      | zero=>exact absurd HA.out (by simp [zb.l1])
      | succ k3 =>
       have H:=HA.out
       clear HA
       simp only [zb.l1] at H
       replace H:=Option.bind_eq_some_iff.mp H
       obtain ⟨t105,A200,H⟩:=H
       replace H : (if x12_3 < t105 then ((zr.f a0).bind fun t109=>(if t109 = 0 then (none) else (if 0 ≤ (wrap64 (x10_2 + (wrap64 (Int.tdiv x12_3 t109)))) then (if (wrap64 (x10_2 + (wrap64 (Int.tdiv x12_3 t109)))) < (l2.length : Int) then ((zr.f a0).bind fun t111=>(if t111 = 0 then (none) else ((zt.f k3 ((z14 l2 (wrap64 (x10_2 + (wrap64 (Int.tdiv x12_3 t109))))).f0) ((z14 l2 (wrap64 (x10_2 + (wrap64 (Int.tdiv x12_3 t109))))).f1) (Int.tmod x12_3 t111)).bind fun t112=>(if t112 = true then ((zi.f k3 x12_3).bind fun bt113=>((zM.f x105000_3 x105001_3 bt113.1 bt113.2).bind fun bt115=>(zb.l1 k3 a0 a1 l2 x8_2 (wrap64 (Int.tdiv t101 t102)) x10_2 (wrap64 (x12_3 + 1)) bt115.1 bt115.2))) else (zb.l1 k3 a0 a1 l2 x8_2 (wrap64 (Int.tdiv t101 t102)) x10_2 (wrap64 (x12_3 + 1)) x105000_3 x105001_3))))) else (none)) else (none)))) else (if x8_2.length < 8796093022208 then (zb.l0 k3 a0 a1 l2 (x8_2 ++ [(⟨x105000_3,x105001_3⟩ : S61)]) (wrap64 (Int.tdiv t101 t102)) (wrap64 (x10_2 + (wrap64 (Int.tdiv t101 t102))))) else (none))) = some (r1,r2):=H
       have A20:=z3.mk A200
       clear A200
       by_cases c21 : x12_3 < t105
       rotate_left
       · rw [if_neg c21] at H
         have c21b0 : decide (x12_3 < t105) = false:=decide_eq_false c21
         clear c21
         by_cases c48 : x8_2.length < 8796093022208
         rotate_left
         · rw [if_neg c48] at H
           exact absurd H (by simp)
         rw [if_pos c48] at H
         have LMc48:=z3.mk c48
         clear c48
         obtain ⟨y106,hy106⟩ : ∃ y_ : List (S61),y_ = (x8_2 ++ [(⟨x105000_3,x105001_3⟩ : S61)]):=⟨_,rfl⟩
         replace H : (zb.l0 k3 a0 a1 l2 y106 (wrap64 (Int.tdiv t101 t102)) (wrap64 (x10_2 + (wrap64 (Int.tdiv t101 t102))))) = some (r1,r2):=by first|(rw [hy106];with_reducible exact H)|(have H2_:=(Option.bind_some _ _).symm.trans H;rw [hy106];with_reducible exact H2_)|(have H2_:=(Option.bind_some _ _).symm.trans H;with_reducible exact H2_)|with_reducible exact H|(rw [hy106];exact H)|exact H
         have Ny106:=z3.mk hy106
         clear hy106
         have H':=z3.mk H
         clear H
         go_wp2_with (first|((with_reducible refine zq (f:=72) rfl ?_);refine goesL_ (some 47) rfl rfl Try.func72 (by kernel_rfl) rfl #[.int .i64 a1] rfl (by (try simp only [List.map_toArray,List.map_cons,List.map_nil]);first|done|rfl|(simp only [List.length_drop,List.length_take];rfl)) ?_;(with_reducible refine (zr.calls a1 t105 _ A20.out).mono ?_);rintro e w49 ⟨rfl,hb⟩;refine ⟨_,rfl,?_⟩;have n0_:=z3.mk (Kd.zz (by (with_reducible repeat (first|apply Kd.zl|apply Kd.zm|apply Kd.zw));exact HO_8.out) hb);have n1_:=z3.mk (zk (g:=gb104) (o:=.cells #[.int .u64 x105000_3,.int .u64 x105001_3] 61 (0,0)) (by (with_reducible repeat (first|refine z5 ?_ _|refine z7 ?_|refine z4 ?_ _));exact BK104.out) hb);have n2_:=z3.mk (za (by repeat (first|(with_reducible first|exact HB.out|apply z2|apply z0|apply z1|refine z6 ?_ GE104.out)|exact HB.out)) hb);clear HO_8;clear BK104;clear HB;have HO_8:=n0_;have BK104:=n1_;have HB:=n2_;clear n0_ n1_ n2_;(try clear hb);(try clear hb2);(try clear hk);(try clear hi);have hcz50_0 : w49.cell? ⟨gb104,0,none⟩ = some (.int .u64 x105000_3):=(ze BK104.out 0).trans rfl;have hcz50_1 : w49.cell? ⟨gb104,1,none⟩ = some (.int .u64 x105001_3):=(ze BK104.out 1).trans rfl;have hfz50_0:=zd BK104.out 0;have hfz50_1:=zd BK104.out 1)|((with_reducible refine z1u (b:=.append) (xs:=#[.tmp 69,.tmp 71]) rfl ?_);at_builtin;refine Kd.z1Y k61 (w0:=w) w.heap.size rfl (.tmp 69) (.tmp 71) 43 61 (.agg #[(.int .u64 0),(.int .u64 0)]) 16 rfl Try.underlying43 info61 rfl (by decide) (by omega) u8 x8_2 (⟨x105000_3,x105001_3⟩ : S61) [.int .u64 x105000_3,.int .u64 x105001_3] (fun k_=>k_ ≠ gb104) (fun _=>False) rfl rfl ?aP (fun _ hk=>hk.elim) ?aF ?aO ?aB ?aS ?aL ?_;(case aP=>exact z3Q _ _ _ (⟨x105000_3,x105001_3⟩ : S61));(case aB=>exact (by repeat (first|(with_reducible first|exact HB.out|apply z2|apply z0|apply z1|refine z6 ?_ GE104.out)|exact HB.out)));(case aF=>exact (fun k_ hk=>Kd.freshB (g:=gb104) (o:=.cells #[.int .u64 x105000_3,.int .u64 x105001_3] 61 (0,0)) (by (with_reducible repeat (first|refine z5 ?_ _|refine z7 ?_|refine z4 ?_ _));exact BK104.out) k_ hk));(case aO=>exact (by (with_reducible repeat (first|apply Kd.zl|apply Kd.zm|apply Kd.zw));exact HO_8.out));(case aS=>exact (zc (by repeat (first|(with_reducible first|exact HB.out|apply z2|apply z0|apply z1|refine z6 ?_ GE104.out)|exact HB.out))));(case aL=>have:=LMc48.out;omega);intro v107 w51 ho hb hg hat;rw [← Ny106.out] at ho;have n0_:=z3.mk (z1N (g:=gb104) (o:=.cells #[.int .u64 x105000_3,.int .u64 x105001_3] 61 (0,0)) (by (with_reducible repeat (first|refine z5 ?_ _|refine z7 ?_|refine z4 ?_ _));exact BK104.out) hg (Kd.z3w HO_8.out (fun _ hk=>hk)));have n1_:=z3.mk (hb);have n2_:=z3.mk (ho);clear BK104;clear HB;clear HO_8;have BK104:=n0_;have HB:=n1_;have HO108:=n2_;clear n0_ n1_ n2_;clear ho hb hg hat))
         go_roundg k3
         case measure=>have:=HJ3.out;have:=HK2.out;have:=HK3.out;omega
         case rel=>exact ⟨(y106),(wrap64 (x10_2 + (wrap64 (Int.tdiv t101 t102)))),(by first|rfl|(simp;done)|(simp [*];done)),H',⟨by have:=HJ3.out;have:=HK2.out;have:=HK3.out;omega⟩,⟨by (with_reducible repeat (first|apply Kd.zl|apply Kd.zm|apply Kd.zw));exact Kd.z1f HO108.out (fun _ hk=>trivial)⟩,⟨by repeat (first|(with_reducible first|exact HB.out|apply z2|apply z0|apply z1|refine z6 ?_ GE104.out)|exact HB.out)⟩⟩
       rw [if_pos c21] at H
       have c21b0 : decide (x12_3 < t105) = true:=decide_eq_true c21
       clear c21
       replace H:=Option.bind_eq_some_iff.mp H
       obtain ⟨t109,A220,H⟩:=H
       replace H : (if t109 = 0 then (none) else (if 0 ≤ (wrap64 (x10_2 + (wrap64 (Int.tdiv x12_3 t109)))) then (if (wrap64 (x10_2 + (wrap64 (Int.tdiv x12_3 t109)))) < (l2.length : Int) then ((zr.f a0).bind fun t111=>(if t111 = 0 then (none) else ((zt.f k3 ((z14 l2 (wrap64 (x10_2 + (wrap64 (Int.tdiv x12_3 t109))))).f0) ((z14 l2 (wrap64 (x10_2 + (wrap64 (Int.tdiv x12_3 t109))))).f1) (Int.tmod x12_3 t111)).bind fun t112=>(if t112 = true then ((zi.f k3 x12_3).bind fun bt113=>((zM.f x105000_3 x105001_3 bt113.1 bt113.2).bind fun bt115=>(zb.l1 k3 a0 a1 l2 x8_2 (wrap64 (Int.tdiv t101 t102)) x10_2 (wrap64 (x12_3 + 1)) bt115.1 bt115.2))) else (zb.l1 k3 a0 a1 l2 x8_2 (wrap64 (Int.tdiv t101 t102)) x10_2 (wrap64 (x12_3 + 1)) x105000_3 x105001_3))))) else (none)) else (none))) = some (r1,r2):=H
       have A22:=z3.mk A220
       clear A220
       by_cases c23 : t109 = 0
       · rw [if_pos c23] at H
         exact absurd H (by simp)
       rw [if_neg c23] at H
       have c23b0 : (t109 == 0) = false:=beq_eq_false_iff_ne.mpr c23
       have c23b1 : (t109 != 0) = true:=bne_iff_ne.mpr c23
       obtain ⟨ji24,hji24⟩ : ∃ j_ : Int,(wrap64 (x10_2 + (wrap64 (Int.tdiv x12_3 t109)))) = j_:=⟨_,rfl⟩
       replace H : (if 0 ≤ (ji24) then (if (ji24) < (l2.length : Int) then ((zr.f a0).bind fun t111=>(if t111 = 0 then (none) else ((zt.f k3 ((z14 l2 (ji24)).f0) ((z14 l2 (ji24)).f1) (Int.tmod x12_3 t111)).bind fun t112=>(if t112 = true then ((zi.f k3 x12_3).bind fun bt113=>((zM.f x105000_3 x105001_3 bt113.1 bt113.2).bind fun bt115=>(zb.l1 k3 a0 a1 l2 x8_2 (wrap64 (Int.tdiv t101 t102)) x10_2 (wrap64 (x12_3 + 1)) bt115.1 bt115.2))) else (zb.l1 k3 a0 a1 l2 x8_2 (wrap64 (Int.tdiv t101 t102)) x10_2 (wrap64 (x12_3 + 1)) x105000_3 x105001_3))))) else (none)) else (none)) = some (r1,r2):=by first|(rw [hji24] at H;exact H)|(simp only [hji24] at H ⊢;exact H)
       (try rw [hji24] at A20)
       (try rw [hji24] at A22)
       have hji24w : (IntKind.i64.wrap (x10_2 + (wrap64 (Int.tdiv x12_3 t109)))) = ji24:=(zC _).trans hji24
       by_cases c25 : 0 ≤ (ji24)
       rotate_left
       · rw [if_neg c25] at H
         exact absurd H (by simp)
       rw [if_pos c25] at H
       have c25b0 : decide (0 ≤ (ji24)) = true:=decide_eq_true c25
       clear c25
       by_cases c26 : (ji24) < (l2.length : Int)
       rotate_left
       · rw [if_neg c26] at H
         exact absurd H (by simp)
       rw [if_pos c26] at H
       have c26b0 : decide ((ji24) < (l2.length : Int)) = true:=decide_eq_true c26
       clear c26
       replace H:=Option.bind_eq_some_iff.mp H
       obtain ⟨t111,A270,H⟩:=H
       replace H : (if t111 = 0 then (none) else ((zt.f k3 ((z14 l2 (ji24)).f0) ((z14 l2 (ji24)).f1) (Int.tmod x12_3 t111)).bind fun t112=>(if t112 = true then ((zi.f k3 x12_3).bind fun bt113=>((zM.f x105000_3 x105001_3 bt113.1 bt113.2).bind fun bt115=>(zb.l1 k3 a0 a1 l2 x8_2 (wrap64 (Int.tdiv t101 t102)) x10_2 (wrap64 (x12_3 + 1)) bt115.1 bt115.2))) else (zb.l1 k3 a0 a1 l2 x8_2 (wrap64 (Int.tdiv t101 t102)) x10_2 (wrap64 (x12_3 + 1)) x105000_3 x105001_3)))) = some (r1,r2):=H
       have A27:=z3.mk A270
       clear A270
       by_cases c28 : t111 = 0
       · rw [if_pos c28] at H
         exact absurd H (by simp)
       rw [if_neg c28] at H
       have c28b0 : (t111 == 0) = false:=beq_eq_false_iff_ne.mpr c28
       have c28b1 : (t111 != 0) = true:=bne_iff_ne.mpr c28
       replace H:=Option.bind_eq_some_iff.mp H
       obtain ⟨t112,A290,H⟩:=H
       replace H : (if t112 = true then ((zi.f k3 x12_3).bind fun bt113=>((zM.f x105000_3 x105001_3 bt113.1 bt113.2).bind fun bt115=>(zb.l1 k3 a0 a1 l2 x8_2 (wrap64 (Int.tdiv t101 t102)) x10_2 (wrap64 (x12_3 + 1)) bt115.1 bt115.2))) else (zb.l1 k3 a0 a1 l2 x8_2 (wrap64 (Int.tdiv t101 t102)) x10_2 (wrap64 (x12_3 + 1)) x105000_3 x105001_3)) = some (r1,r2):=H
       have A29:=z3.mk A290
       clear A290
       by_cases c30 : t112 = true
       rotate_left
       · replace c30:=Bool.eq_false_iff.mpr c30
         subst c30
         have H1 : (zb.l1 k3 a0 a1 l2 x8_2 (wrap64 (Int.tdiv t101 t102)) x10_2 (wrap64 (x12_3 + 1)) x105000_3 x105001_3) = some (r1,r2):=by rw [if_neg (show ¬ (false = true) by decide)] at H;exact H
         clear H
         have H:=H1
         clear H1
         have H':=z3.mk H
         clear H
         try go_wp2_with (first|((with_reducible refine zq (f:=72) rfl ?_);refine goesL_ (some 47) rfl rfl Try.func72 (by kernel_rfl) rfl #[.int .i64 a1] rfl (by (try simp only [List.map_toArray,List.map_cons,List.map_nil]);first|done|rfl|(simp only [List.length_drop,List.length_take];rfl)) ?_;(with_reducible refine (zr.calls a1 t105 _ A20.out).mono ?_);rintro e w43 ⟨rfl,hb⟩;refine ⟨_,rfl,?_⟩;have n0_:=z3.mk (Kd.zz (by (with_reducible repeat (first|apply Kd.zl|apply Kd.zm|apply Kd.zw));exact HO_8.out) hb);have n1_:=z3.mk (zk (g:=gb104) (o:=.cells #[.int .u64 x105000_3,.int .u64 x105001_3] 61 (0,0)) (by (with_reducible repeat (first|refine z5 ?_ _|refine z7 ?_|refine z4 ?_ _));exact BK104.out) hb);have n2_:=z3.mk (za (by repeat (first|(with_reducible first|exact HB.out|apply z2|apply z0|apply z1|refine z6 ?_ GE104.out)|exact HB.out)) hb);clear HO_8;clear BK104;clear HB;have HO_8:=n0_;have BK104:=n1_;have HB:=n2_;clear n0_ n1_ n2_;(try clear hb);(try clear hb2);(try clear hk);(try clear hi)))
         have n0_:=z3.mk (Kd.zw HO_8.out)
         have n1_:=z3.mk (z7 BK104.out)
         have n2_:=z3.mk (z1 HB.out)
         clear HO_8
         clear BK104
         clear HB
         have HO_8:=n0_
         have BK104:=n1_
         have HB:=n2_
         clear n0_ n1_ n2_
         have p110 : 0 ≤ ((ji24) : Int):=of_decide_eq_true (by first|(with_reducible assumption)|assumption)
         have q110 : (ji24) < (l2.length : Int):=of_decide_eq_true (by first|(with_reducible assumption)|assumption)
         obtain ⟨ad110,e110,hx110_0,hx110_1⟩:=z2S HR2.out (ji24) p110 q110
         have hw110_1:=hx110_1
         have hw110_0:=hx110_0
         cases e110
         replace hx110_0:=(HB.out.cell (World.block_lt_of_cell? w _ hx110_0)).trans hx110_0
         replace hx110_1:=(HB.out.cell (World.block_lt_of_cell? w _ hx110_1)).trans hx110_1
         replace p110:=eq_true p110
         replace q110:=eq_true q110
         refine start_ (n:=14) (S:=fun w'=>w'.cell? (ad110.add (((ji24)).toNat * 2)) = some (.int .u64 ((z14 l2 (ji24)).f0)) ∧ w'.cell? ⟨(ad110.add (((ji24)).toNat * 2)).block,(ad110.add (((ji24)).toNat * 2)).off + 1,none⟩ = some (.int .u64 ((z14 l2 (ji24)).f1))) (ds:=[]) #[false,false,false,false,false,false,false,false,false,false,false,false,false,false] (by kernel_rfl) rfl rfl ⟨((HB.out.cell (World.block_lt_of_cell? w _ hw110_0)).trans hw110_0),((HB.out.cell (World.block_lt_of_cell? w _ hw110_1)).trans hw110_1)⟩ (fun hHeld=>?_);refine z1D zb.tab16 zb.bits16 (fun HT_ HW_=>?_)
         generalize w43.drew = w44 at HO_8 BK104 HB hx110_0 hx110_1 hHeld ⊢
         refine pure_ (i:=0) (N:=some 51) (v:=?_) (a':=?_) #[true,false,false,false,false,false,false,false,false,false,false,false,false,false] rfl rfl (zO HT_.out (by kernel_rfl)) (fun _ _ _ h=>h) (Or.inl ⟨by rfl,?_⟩) ?_ ?_
         rotate_left
         · intro w'
           go_simp
           with_reducible rfl
         rotate_left
         · simp only [Act.put,List.setIfInBounds_toArray,List.set_cons_zero,List.set_cons_succ,zC,zK]
           rfl
         refine pure_ (i:=1) (N:=some 52) (v:=?_) (a':=?_) #[true,true,false,false,false,false,false,false,false,false,false,false,false,false] rfl rfl (zO HT_.out (by kernel_rfl)) (fun _ _ _ h=>h) (Or.inl ⟨by rfl,?_⟩) ?_ ?_
         rotate_left
         · intro w'
           go_simp
           with_reducible rfl
         rotate_left
         · simp only [Act.put,List.setIfInBounds_toArray,List.set_cons_zero,List.set_cons_succ,zC,zK]
           rfl
         refine pure_ (i:=2) (N:=some 53) (v:=?_) (a':=?_) #[true,true,true,false,false,false,false,false,false,false,false,false,false,false] rfl rfl (zO HT_.out (by kernel_rfl)) (fun _ _ _ h=>h) (Or.inl ⟨by rfl,?_⟩) ?_ ?_
         rotate_left
         · intro w'
           go_simp
           with_reducible rfl
         rotate_left
         · simp only [Act.put,List.setIfInBounds_toArray,List.set_cons_zero,List.set_cons_succ,zC,zK]
           rfl
         refine pure_ (i:=3) (N:=some 54) (v:=?_) (a':=?_) #[true,true,true,true,false,false,false,false,false,false,false,false,false,false] rfl rfl (zO HT_.out (by kernel_rfl)) (fun _ _ _ h=>h) (Or.inl ⟨by rfl,?_⟩) ?_ ?_
         rotate_left
         · intro w'
           go_simp
           with_reducible rfl
         rotate_left
         · simp only [Act.put,List.setIfInBounds_toArray,List.set_cons_zero,List.set_cons_succ,zC,zK]
           rfl
         refine pure_ (i:=9) (N:=some 60) (v:=?_) (a':=?_) #[true,true,true,true,false,false,false,false,false,true,false,false,false,false] rfl rfl (zO HT_.out (by kernel_rfl)) (fun _ _ _ h=>h) (Or.inl ⟨by rfl,?_⟩) ?_ ?_
         rotate_left
         · intro w'
           go_simp
           with_reducible rfl
         rotate_left
         · simp only [Act.put,List.setIfInBounds_toArray,List.set_cons_zero,List.set_cons_succ,zC,zK]
           rfl
         refine pure_ (i:=10) (N:=some 61) (v:=?_) (a':=?_) #[true,true,true,true,false,false,false,false,false,true,true,false,false,false] rfl rfl (zO HT_.out (by kernel_rfl)) (fun _ _ _ h=>h) (Or.inl ⟨by rfl,?_⟩) ?_ ?_
         rotate_left
         · intro w'
           go_simp
           with_reducible rfl
         rotate_left
         · simp only [Act.put,List.setIfInBounds_toArray,List.set_cons_zero,List.set_cons_succ,zC,zK]
           rfl
         refine one_ (i:=4) (N:=some 55) #[true,true,true,true,true,false,false,false,false,true,true,false,false,false] rfl rfl (z1y HT_.out (by kernel_rfl)) (by decide) (fun K hK=>?_)
         refine goes_ Try.func72 (by kernel_rfl) rfl #[.int .i64 a0] (by rfl) rfl rfl (by (try simp only [List.map_toArray,List.map_cons,List.map_nil]);first|done|rfl|(simp only [List.length_drop,List.length_take];rfl)) ?_
         with_reducible refine (zr.calls a0 t109 _ A22.out).mono ?_
         rintro e w45 ⟨rfl,hb⟩
         refine ⟨_,rfl,?_⟩
         have n0_:=z3.mk (Kd.zz (by (with_reducible repeat (first|apply Kd.zl|apply Kd.zm|apply Kd.zw));exact HO_8.out) hb)
         have n1_:=z3.mk (zk (g:=gb104) (o:=.cells #[.int .u64 x105000_3,.int .u64 x105001_3] 61 (0,0)) (by (with_reducible repeat (first|refine z5 ?_ _|refine z7 ?_|refine z4 ?_ _));exact BK104.out) hb)
         have n2_:=z3.mk (za (by repeat (first|(with_reducible first|exact HB.out|apply z2|apply z0|apply z1|refine z6 ?_ GE104.out)|exact HB.out)) hb)
         clear HO_8
         clear BK104
         clear HB
         have HO_8:=n0_
         have BK104:=n1_
         have HB:=n2_
         clear n0_ n1_ n2_
         (try clear hb)
         (try clear hb2)
         (try clear hk)
         (try clear hi)
         refine hK.out _ _ ⟨((HB.out.cell (World.block_lt_of_cell? w _ hw110_0)).trans hw110_0),((HB.out.cell (World.block_lt_of_cell? w _ hw110_1)).trans hw110_1)⟩ (fun hHeld=>?_)
         clear hK K
         refine norm_ (a':=?_) ?_ ?_
         rotate_left
         · show Act.put _ (some 55) _ = _
           simp only [Act.put,List.setIfInBounds_toArray,List.set_cons_zero,List.set_cons_succ,zC,zK]
           rfl
         refine pure_ (i:=5) (N:=some 56) (v:=?_) (a':=?_) #[true,true,true,true,true,true,false,false,false,true,true,false,false,false] rfl rfl (zO HT_.out (by kernel_rfl)) (fun _ _ _ h=>h) (Or.inl ⟨by rfl,?_⟩) ?_ ?_
         rotate_left
         · intro w'
           go_simp
           with_reducible rfl
         rotate_left
         · simp only [Act.put,List.setIfInBounds_toArray,List.set_cons_zero,List.set_cons_succ,zC,zK]
           rfl
         refine pure_ (i:=6) (N:=some 57) (v:=?_) (a':=?_) #[true,true,true,true,true,true,true,false,false,true,true,false,false,false] rfl rfl (zO HT_.out (by kernel_rfl)) (fun _ _ _ h=>h) (Or.inl ⟨by rfl,?_⟩) ?_ ?_
         rotate_left
         · intro w'
           go_simp
           with_reducible rfl
         rotate_left
         · simp only [Act.put,List.setIfInBounds_toArray,List.set_cons_zero,List.set_cons_succ,zC,zK]
           rfl
         refine pure_ (i:=7) (N:=some 58) (v:=?_) (a':=?_) #[true,true,true,true,true,true,true,true,false,true,true,false,false,false] rfl rfl (zO HT_.out (by kernel_rfl)) (fun _ _ _ h=>h) (Or.inl ⟨by rfl,?_⟩) ?_ ?_
         rotate_left
         · intro w'
           go_simp
           with_reducible rfl
         rotate_left
         · simp only [Act.put,List.setIfInBounds_toArray,List.set_cons_zero,List.set_cons_succ,zC,zK]
           rfl
         refine take_ (i:=8) (N:=some 59) (v:=?_) (a':=?_) #[true,true,true,true,true,true,true,true,true,true,true,false,false,false] rfl rfl (z1n HT_.out HW_.out (by kernel_rfl)) (fun _ _ _ h=>h) (Or.inl ⟨by rfl,?_⟩) hHeld ?_ ?_
         rotate_left
         · rintro w' ⟨s0,s1⟩
           go_simp
           with_reducible rfl
         rotate_left
         · simp only [Act.put,List.setIfInBounds_toArray,List.set_cons_zero,List.set_cons_succ,zC,zK]
           rfl
         refine one_ (i:=11) (N:=some 62) #[true,true,true,true,true,true,true,true,true,true,true,true,false,false] rfl rfl (z1y HT_.out (by kernel_rfl)) (by decide) (fun K hK=>?_)
         refine goes_ Try.func72 (by kernel_rfl) rfl #[.int .i64 a0] (by rfl) rfl rfl (by (try simp only [List.map_toArray,List.map_cons,List.map_nil]);first|done|rfl|(simp only [List.length_drop,List.length_take];rfl)) ?_
         with_reducible refine (zr.calls a0 t111 _ A27.out).mono ?_
         rintro e w46 ⟨rfl,hb⟩
         refine ⟨_,rfl,?_⟩
         have n0_:=z3.mk (Kd.zz (by (with_reducible repeat (first|apply Kd.zl|apply Kd.zm|apply Kd.zw));exact HO_8.out) hb)
         have n1_:=z3.mk (zk (g:=gb104) (o:=.cells #[.int .u64 x105000_3,.int .u64 x105001_3] 61 (0,0)) (by (with_reducible repeat (first|refine z5 ?_ _|refine z7 ?_|refine z4 ?_ _));exact BK104.out) hb)
         have n2_:=z3.mk (za (by repeat (first|(with_reducible first|exact HB.out|apply z2|apply z0|apply z1|refine z6 ?_ GE104.out)|exact HB.out)) hb)
         clear HO_8
         clear BK104
         clear HB
         have HO_8:=n0_
         have BK104:=n1_
         have HB:=n2_
         clear n0_ n1_ n2_
         (try clear hb)
         (try clear hb2)
         (try clear hk)
         (try clear hi)
         refine hK.out _ _ ⟨((HB.out.cell (World.block_lt_of_cell? w _ hw110_0)).trans hw110_0),((HB.out.cell (World.block_lt_of_cell? w _ hw110_1)).trans hw110_1)⟩ (fun hHeld=>?_)
         clear hK K
         refine norm_ (a':=?_) ?_ ?_
         rotate_left
         · show Act.put _ (some 62) _ = _
           simp only [Act.put,List.setIfInBounds_toArray,List.set_cons_zero,List.set_cons_succ,zC,zK]
           rfl
         refine pure_ (i:=12) (N:=some 63) (v:=?_) (a':=?_) #[true,true,true,true,true,true,true,true,true,true,true,true,true,false] rfl rfl (zO HT_.out (by kernel_rfl)) (fun _ _ _ h=>h) (Or.inl ⟨by rfl,?_⟩) ?_ ?_
         rotate_left
         · intro w'
           go_simp
           with_reducible rfl
         rotate_left
         · simp only [Act.put,List.setIfInBounds_toArray,List.set_cons_zero,List.set_cons_succ,zC,zK]
           rfl
         refine one_ (i:=13) (N:=some 64) #[true,true,true,true,true,true,true,true,true,true,true,true,true,true] rfl rfl (z1y HT_.out (by kernel_rfl)) (by decide) (fun K hK=>?_)
         refine goes_ Try.func73 (by kernel_rfl) rfl #[.agg #[.int .u64 ((z14 l2 (ji24)).f0),.int .u64 ((z14 l2 (ji24)).f1)],.int .i64 (Int.tmod x12_3 t111)] (by rfl) rfl rfl (by (try simp only [List.map_toArray,List.map_cons,List.map_nil]);first|done|(simp only [hji24];rfl)|rfl|(simp only [List.length_drop,List.length_take];rfl)) ?_
         with_reducible refine (zt.calls k3 ((z14 l2 (ji24)).f0) ((z14 l2 (ji24)).f1) (Int.tmod x12_3 t111) false _ A29.out).mono ?_
         rintro e w47 ⟨rfl,hb⟩
         refine ⟨_,rfl,?_⟩
         have n0_:=z3.mk (Kd.zz (by (with_reducible repeat (first|apply Kd.zl|apply Kd.zm|apply Kd.zw));exact HO_8.out) hb)
         have n1_:=z3.mk (zk (g:=gb104) (o:=.cells #[.int .u64 x105000_3,.int .u64 x105001_3] 61 (0,0)) (by (with_reducible repeat (first|refine z5 ?_ _|refine z7 ?_|refine z4 ?_ _));exact BK104.out) hb)
         have n2_:=z3.mk (za (by repeat (first|(with_reducible first|exact HB.out|apply z2|apply z0|apply z1|refine z6 ?_ GE104.out)|exact HB.out)) hb)
         clear HO_8
         clear BK104
         clear HB
         have HO_8:=n0_
         have BK104:=n1_
         have HB:=n2_
         clear n0_ n1_ n2_
         (try clear hb)
         (try clear hb2)
         (try clear hk)
         (try clear hi)
         refine hK.out _ _ ⟨((HB.out.cell (World.block_lt_of_cell? w _ hw110_0)).trans hw110_0),((HB.out.cell (World.block_lt_of_cell? w _ hw110_1)).trans hw110_1)⟩ (fun hHeld=>?_)
         clear hK K
         refine norm_ (a':=?_) ?_ ?_
         rotate_left
         · show Act.put _ (some 64) _ = _
           simp only [Act.put,List.setIfInBounds_toArray,List.set_cons_zero,List.set_cons_succ,zC,zK]
           rfl
         refine done_ (z25 HT_.out (by kernel_rfl)) ?_
         try go_wp2
         go_roundg k3
         case measure=>have:=HJ3.out;have:=HK2.out;have:=HK3.out;omega
         case rel=>exact ⟨(wrap64 (x12_3 + 1)),(x105000_3),(x105001_3),(by first|rfl|(simp;done)|(simp [*];done)),H',⟨by have:=HJ3.out;have:=HK2.out;have:=HK3.out;omega⟩,⟨by (with_reducible repeat (first|apply Kd.zl|apply Kd.zm|apply Kd.zw));exact HO_8.out⟩,⟨by (with_reducible repeat (first|refine z5 ?_ _|refine z7 ?_|refine z4 ?_ _));exact BK104.out⟩,⟨by repeat (first|(with_reducible first|exact HB.out|apply z2|apply z0|apply z1|refine z6 ?_ GE104.out)|exact HB.out)⟩⟩
       subst c30
       have H1 : ((zi.f k3 x12_3).bind fun bt113=>((zM.f x105000_3 x105001_3 bt113.1 bt113.2).bind fun bt115=>(zb.l1 k3 a0 a1 l2 x8_2 (wrap64 (Int.tdiv t101 t102)) x10_2 (wrap64 (x12_3 + 1)) bt115.1 bt115.2))) = some (r1,r2):=by rw [if_pos rfl] at H;exact H
       clear H
       have H:=H1
       clear H1
       replace H:=Option.bind_eq_some_iff.mp H
       obtain ⟨⟨t113,t114⟩,A310,H⟩:=H
       replace H : ((zM.f x105000_3 x105001_3 t113 t114).bind fun bt115=>(zb.l1 k3 a0 a1 l2 x8_2 (wrap64 (Int.tdiv t101 t102)) x10_2 (wrap64 (x12_3 + 1)) bt115.1 bt115.2)) = some (r1,r2):=H
       have A31:=z3.mk A310
       clear A310
       replace H:=Option.bind_eq_some_iff.mp H
       obtain ⟨⟨t115,t116⟩,A320,H⟩:=H
       replace H : (zb.l1 k3 a0 a1 l2 x8_2 (wrap64 (Int.tdiv t101 t102)) x10_2 (wrap64 (x12_3 + 1)) t115 t116) = some (r1,r2):=H
       have A32:=z3.mk A320
       clear A320
       have H':=z3.mk H
       clear H
       try go_wp2_with (first|((with_reducible refine zq (f:=72) rfl ?_);refine goesL_ (some 47) rfl rfl Try.func72 (by kernel_rfl) rfl #[.int .i64 a1] rfl (by (try simp only [List.map_toArray,List.map_cons,List.map_nil]);first|done|rfl|(simp only [List.length_drop,List.length_take];rfl)) ?_;(with_reducible refine (zr.calls a1 t105 _ A20.out).mono ?_);rintro e w33 ⟨rfl,hb⟩;refine ⟨_,rfl,?_⟩;have n0_:=z3.mk (Kd.zz (by (with_reducible repeat (first|apply Kd.zl|apply Kd.zm|apply Kd.zw));exact HO_8.out) hb);have n1_:=z3.mk (zk (g:=gb104) (o:=.cells #[.int .u64 x105000_3,.int .u64 x105001_3] 61 (0,0)) (by (with_reducible repeat (first|refine z5 ?_ _|refine z7 ?_|refine z4 ?_ _));exact BK104.out) hb);have n2_:=z3.mk (za (by repeat (first|(with_reducible first|exact HB.out|apply z2|apply z0|apply z1|refine z6 ?_ GE104.out)|exact HB.out)) hb);clear HO_8;clear BK104;clear HB;have HO_8:=n0_;have BK104:=n1_;have HB:=n2_;clear n0_ n1_ n2_;(try clear hb);(try clear hb2);(try clear hk);(try clear hi)))
       have n0_:=z3.mk (Kd.zw HO_8.out)
       have n1_:=z3.mk (z7 BK104.out)
       have n2_:=z3.mk (z1 HB.out)
       clear HO_8
       clear BK104
       clear HB
       have HO_8:=n0_
       have BK104:=n1_
       have HB:=n2_
       clear n0_ n1_ n2_
       have p110 : 0 ≤ ((ji24) : Int):=of_decide_eq_true (by first|(with_reducible assumption)|assumption)
       have q110 : (ji24) < (l2.length : Int):=of_decide_eq_true (by first|(with_reducible assumption)|assumption)
       obtain ⟨ad110,e110,hx110_0,hx110_1⟩:=z2S HR2.out (ji24) p110 q110
       have hw110_1:=hx110_1
       have hw110_0:=hx110_0
       cases e110
       replace hx110_0:=(HB.out.cell (World.block_lt_of_cell? w _ hx110_0)).trans hx110_0
       replace hx110_1:=(HB.out.cell (World.block_lt_of_cell? w _ hx110_1)).trans hx110_1
       replace p110:=eq_true p110
       replace q110:=eq_true q110
       refine start_ (n:=14) (S:=fun w'=>w'.cell? (ad110.add (((ji24)).toNat * 2)) = some (.int .u64 ((z14 l2 (ji24)).f0)) ∧ w'.cell? ⟨(ad110.add (((ji24)).toNat * 2)).block,(ad110.add (((ji24)).toNat * 2)).off + 1,none⟩ = some (.int .u64 ((z14 l2 (ji24)).f1))) (ds:=[]) #[false,false,false,false,false,false,false,false,false,false,false,false,false,false] (by kernel_rfl) rfl rfl ⟨((HB.out.cell (World.block_lt_of_cell? w _ hw110_0)).trans hw110_0),((HB.out.cell (World.block_lt_of_cell? w _ hw110_1)).trans hw110_1)⟩ (fun hHeld=>?_);refine z1D zb.tab16 zb.bits16 (fun HT_ HW_=>?_)
       generalize w33.drew = w34 at HO_8 BK104 HB hx110_0 hx110_1 hHeld ⊢
       refine pure_ (i:=0) (N:=some 51) (v:=?_) (a':=?_) #[true,false,false,false,false,false,false,false,false,false,false,false,false,false] rfl rfl (zO HT_.out (by kernel_rfl)) (fun _ _ _ h=>h) (Or.inl ⟨by rfl,?_⟩) ?_ ?_
       rotate_left
       · intro w'
         go_simp
         with_reducible rfl
       rotate_left
       · simp only [Act.put,List.setIfInBounds_toArray,List.set_cons_zero,List.set_cons_succ,zC,zK]
         rfl
       refine pure_ (i:=1) (N:=some 52) (v:=?_) (a':=?_) #[true,true,false,false,false,false,false,false,false,false,false,false,false,false] rfl rfl (zO HT_.out (by kernel_rfl)) (fun _ _ _ h=>h) (Or.inl ⟨by rfl,?_⟩) ?_ ?_
       rotate_left
       · intro w'
         go_simp
         with_reducible rfl
       rotate_left
       · simp only [Act.put,List.setIfInBounds_toArray,List.set_cons_zero,List.set_cons_succ,zC,zK]
         rfl
       refine pure_ (i:=2) (N:=some 53) (v:=?_) (a':=?_) #[true,true,true,false,false,false,false,false,false,false,false,false,false,false] rfl rfl (zO HT_.out (by kernel_rfl)) (fun _ _ _ h=>h) (Or.inl ⟨by rfl,?_⟩) ?_ ?_
       rotate_left
       · intro w'
         go_simp
         with_reducible rfl
       rotate_left
       · simp only [Act.put,List.setIfInBounds_toArray,List.set_cons_zero,List.set_cons_succ,zC,zK]
         rfl
       refine pure_ (i:=3) (N:=some 54) (v:=?_) (a':=?_) #[true,true,true,true,false,false,false,false,false,false,false,false,false,false] rfl rfl (zO HT_.out (by kernel_rfl)) (fun _ _ _ h=>h) (Or.inl ⟨by rfl,?_⟩) ?_ ?_
       rotate_left
       · intro w'
         go_simp
         with_reducible rfl
       rotate_left
       · simp only [Act.put,List.setIfInBounds_toArray,List.set_cons_zero,List.set_cons_succ,zC,zK]
         rfl
       refine pure_ (i:=9) (N:=some 60) (v:=?_) (a':=?_) #[true,true,true,true,false,false,false,false,false,true,false,false,false,false] rfl rfl (zO HT_.out (by kernel_rfl)) (fun _ _ _ h=>h) (Or.inl ⟨by rfl,?_⟩) ?_ ?_
       rotate_left
       · intro w'
         go_simp
         with_reducible rfl
       rotate_left
       · simp only [Act.put,List.setIfInBounds_toArray,List.set_cons_zero,List.set_cons_succ,zC,zK]
         rfl
       refine pure_ (i:=10) (N:=some 61) (v:=?_) (a':=?_) #[true,true,true,true,false,false,false,false,false,true,true,false,false,false] rfl rfl (zO HT_.out (by kernel_rfl)) (fun _ _ _ h=>h) (Or.inl ⟨by rfl,?_⟩) ?_ ?_
       rotate_left
       · intro w'
         go_simp
         with_reducible rfl
       rotate_left
       · simp only [Act.put,List.setIfInBounds_toArray,List.set_cons_zero,List.set_cons_succ,zC,zK]
         rfl
       refine one_ (i:=4) (N:=some 55) #[true,true,true,true,true,false,false,false,false,true,true,false,false,false] rfl rfl (z1y HT_.out (by kernel_rfl)) (by decide) (fun K hK=>?_)
       refine goes_ Try.func72 (by kernel_rfl) rfl #[.int .i64 a0] (by rfl) rfl rfl (by (try simp only [List.map_toArray,List.map_cons,List.map_nil]);first|done|rfl|(simp only [List.length_drop,List.length_take];rfl)) ?_
       with_reducible refine (zr.calls a0 t109 _ A22.out).mono ?_
       rintro e w35 ⟨rfl,hb⟩
       refine ⟨_,rfl,?_⟩
       have n0_:=z3.mk (Kd.zz (by (with_reducible repeat (first|apply Kd.zl|apply Kd.zm|apply Kd.zw));exact HO_8.out) hb)
       have n1_:=z3.mk (zk (g:=gb104) (o:=.cells #[.int .u64 x105000_3,.int .u64 x105001_3] 61 (0,0)) (by (with_reducible repeat (first|refine z5 ?_ _|refine z7 ?_|refine z4 ?_ _));exact BK104.out) hb)
       have n2_:=z3.mk (za (by repeat (first|(with_reducible first|exact HB.out|apply z2|apply z0|apply z1|refine z6 ?_ GE104.out)|exact HB.out)) hb)
       clear HO_8
       clear BK104
       clear HB
       have HO_8:=n0_
       have BK104:=n1_
       have HB:=n2_
       clear n0_ n1_ n2_
       (try clear hb)
       (try clear hb2)
       (try clear hk)
       (try clear hi)
       refine hK.out _ _ ⟨((HB.out.cell (World.block_lt_of_cell? w _ hw110_0)).trans hw110_0),((HB.out.cell (World.block_lt_of_cell? w _ hw110_1)).trans hw110_1)⟩ (fun hHeld=>?_)
       clear hK K
       refine norm_ (a':=?_) ?_ ?_
       rotate_left
       · show Act.put _ (some 55) _ = _
         simp only [Act.put,List.setIfInBounds_toArray,List.set_cons_zero,List.set_cons_succ,zC,zK]
         rfl
       refine pure_ (i:=5) (N:=some 56) (v:=?_) (a':=?_) #[true,true,true,true,true,true,false,false,false,true,true,false,false,false] rfl rfl (zO HT_.out (by kernel_rfl)) (fun _ _ _ h=>h) (Or.inl ⟨by rfl,?_⟩) ?_ ?_
       rotate_left
       · intro w'
         go_simp
         with_reducible rfl
       rotate_left
       · simp only [Act.put,List.setIfInBounds_toArray,List.set_cons_zero,List.set_cons_succ,zC,zK]
         rfl
       refine pure_ (i:=6) (N:=some 57) (v:=?_) (a':=?_) #[true,true,true,true,true,true,true,false,false,true,true,false,false,false] rfl rfl (zO HT_.out (by kernel_rfl)) (fun _ _ _ h=>h) (Or.inl ⟨by rfl,?_⟩) ?_ ?_
       rotate_left
       · intro w'
         go_simp
         with_reducible rfl
       rotate_left
       · simp only [Act.put,List.setIfInBounds_toArray,List.set_cons_zero,List.set_cons_succ,zC,zK]
         rfl
       refine pure_ (i:=7) (N:=some 58) (v:=?_) (a':=?_) #[true,true,true,true,true,true,true,true,false,true,true,false,false,false] rfl rfl (zO HT_.out (by kernel_rfl)) (fun _ _ _ h=>h) (Or.inl ⟨by rfl,?_⟩) ?_ ?_
       rotate_left
       · intro w'
         go_simp
         with_reducible rfl
       rotate_left
       · simp only [Act.put,List.setIfInBounds_toArray,List.set_cons_zero,List.set_cons_succ,zC,zK]
         rfl
       refine take_ (i:=8) (N:=some 59) (v:=?_) (a':=?_) #[true,true,true,true,true,true,true,true,true,true,true,false,false,false] rfl rfl (z1n HT_.out HW_.out (by kernel_rfl)) (fun _ _ _ h=>h) (Or.inl ⟨by rfl,?_⟩) hHeld ?_ ?_
       rotate_left
       · rintro w' ⟨s0,s1⟩
         go_simp
         with_reducible rfl
       rotate_left
       · simp only [Act.put,List.setIfInBounds_toArray,List.set_cons_zero,List.set_cons_succ,zC,zK]
         rfl
       refine one_ (i:=11) (N:=some 62) #[true,true,true,true,true,true,true,true,true,true,true,true,false,false] rfl rfl (z1y HT_.out (by kernel_rfl)) (by decide) (fun K hK=>?_)
       refine goes_ Try.func72 (by kernel_rfl) rfl #[.int .i64 a0] (by rfl) rfl rfl (by (try simp only [List.map_toArray,List.map_cons,List.map_nil]);first|done|rfl|(simp only [List.length_drop,List.length_take];rfl)) ?_
       with_reducible refine (zr.calls a0 t111 _ A27.out).mono ?_
       rintro e w36 ⟨rfl,hb⟩
       refine ⟨_,rfl,?_⟩
       have n0_:=z3.mk (Kd.zz (by (with_reducible repeat (first|apply Kd.zl|apply Kd.zm|apply Kd.zw));exact HO_8.out) hb)
       have n1_:=z3.mk (zk (g:=gb104) (o:=.cells #[.int .u64 x105000_3,.int .u64 x105001_3] 61 (0,0)) (by (with_reducible repeat (first|refine z5 ?_ _|refine z7 ?_|refine z4 ?_ _));exact BK104.out) hb)
       have n2_:=z3.mk (za (by repeat (first|(with_reducible first|exact HB.out|apply z2|apply z0|apply z1|refine z6 ?_ GE104.out)|exact HB.out)) hb)
       clear HO_8
       clear BK104
       clear HB
       have HO_8:=n0_
       have BK104:=n1_
       have HB:=n2_
       clear n0_ n1_ n2_
       (try clear hb)
       (try clear hb2)
       (try clear hk)
       (try clear hi)
       refine hK.out _ _ ⟨((HB.out.cell (World.block_lt_of_cell? w _ hw110_0)).trans hw110_0),((HB.out.cell (World.block_lt_of_cell? w _ hw110_1)).trans hw110_1)⟩ (fun hHeld=>?_)
       clear hK K
       refine norm_ (a':=?_) ?_ ?_
       rotate_left
       · show Act.put _ (some 62) _ = _
         simp only [Act.put,List.setIfInBounds_toArray,List.set_cons_zero,List.set_cons_succ,zC,zK]
         rfl
       refine pure_ (i:=12) (N:=some 63) (v:=?_) (a':=?_) #[true,true,true,true,true,true,true,true,true,true,true,true,true,false] rfl rfl (zO HT_.out (by kernel_rfl)) (fun _ _ _ h=>h) (Or.inl ⟨by rfl,?_⟩) ?_ ?_
       rotate_left
       · intro w'
         go_simp
         with_reducible rfl
       rotate_left
       · simp only [Act.put,List.setIfInBounds_toArray,List.set_cons_zero,List.set_cons_succ,zC,zK]
         rfl
       refine one_ (i:=13) (N:=some 64) #[true,true,true,true,true,true,true,true,true,true,true,true,true,true] rfl rfl (z1y HT_.out (by kernel_rfl)) (by decide) (fun K hK=>?_)
       refine goes_ Try.func73 (by kernel_rfl) rfl #[.agg #[.int .u64 ((z14 l2 (ji24)).f0),.int .u64 ((z14 l2 (ji24)).f1)],.int .i64 (Int.tmod x12_3 t111)] (by rfl) rfl rfl (by (try simp only [List.map_toArray,List.map_cons,List.map_nil]);first|done|(simp only [hji24];rfl)|rfl|(simp only [List.length_drop,List.length_take];rfl)) ?_
       with_reducible refine (zt.calls k3 ((z14 l2 (ji24)).f0) ((z14 l2 (ji24)).f1) (Int.tmod x12_3 t111) true _ A29.out).mono ?_
       rintro e w37 ⟨rfl,hb⟩
       refine ⟨_,rfl,?_⟩
       have n0_:=z3.mk (Kd.zz (by (with_reducible repeat (first|apply Kd.zl|apply Kd.zm|apply Kd.zw));exact HO_8.out) hb)
       have n1_:=z3.mk (zk (g:=gb104) (o:=.cells #[.int .u64 x105000_3,.int .u64 x105001_3] 61 (0,0)) (by (with_reducible repeat (first|refine z5 ?_ _|refine z7 ?_|refine z4 ?_ _));exact BK104.out) hb)
       have n2_:=z3.mk (za (by repeat (first|(with_reducible first|exact HB.out|apply z2|apply z0|apply z1|refine z6 ?_ GE104.out)|exact HB.out)) hb)
       clear HO_8
       clear BK104
       clear HB
       have HO_8:=n0_
       have BK104:=n1_
       have HB:=n2_
       clear n0_ n1_ n2_
       (try clear hb)
       (try clear hb2)
       (try clear hk)
       (try clear hi)
       refine hK.out _ _ ⟨((HB.out.cell (World.block_lt_of_cell? w _ hw110_0)).trans hw110_0),((HB.out.cell (World.block_lt_of_cell? w _ hw110_1)).trans hw110_1)⟩ (fun hHeld=>?_)
       clear hK K
       refine norm_ (a':=?_) ?_ ?_
       rotate_left
       · show Act.put _ (some 64) _ = _
         simp only [Act.put,List.setIfInBounds_toArray,List.set_cons_zero,List.set_cons_succ,zC,zK]
         rfl
       refine done_ (z25 HT_.out (by kernel_rfl)) ?_
       try go_wp2
       have n0_:=z3.mk (Kd.zw HO_8.out)
       have n1_:=z3.mk (z7 BK104.out)
       have n2_:=z3.mk (z1 HB.out)
       clear HO_8
       clear BK104
       clear HB
       have HO_8:=n0_
       have BK104:=n1_
       have HB:=n2_
       clear n0_ n1_ n2_
       refine start_ (n:=5) (S:=fun w'=>w'.cell? ⟨gb104,0,none⟩ = some (.int .u64 x105000_3) ∧ w'.cell? ⟨gb104,1,none⟩ = some (.int .u64 x105001_3)) (ds:=[4]) #[false,false,false,false,false] (by kernel_rfl) rfl rfl ⟨(ze BK104.out 0).trans rfl,(ze BK104.out 1).trans rfl⟩ (fun hHeld=>?_)
       generalize w37.drew = w38 at HO_8 BK104 HB hHeld ⊢
       refine pure_ (i:=1) (N:=some 66) (v:=?_) (a':=?_) #[false,true,false,false,false] rfl rfl (by kernel_rfl) (fun _ _ _ h=>h) (Or.inl ⟨by rfl,?_⟩) ?_ ?_
       rotate_left
       · intro w'
         go_simp
         with_reducible rfl
       rotate_left
       · simp only [Act.put,List.setIfInBounds_toArray,List.set_cons_zero,List.set_cons_succ,zC,zK]
         rfl
       refine take_ (i:=0) (N:=some 65) (v:=?_) (a':=?_) #[true,true,false,false,false] rfl rfl (by kernel_rfl) (fun _ _ _ h=>h) (Or.inl ⟨by rfl,?_⟩) hHeld ?_ ?_
       rotate_left
       · rintro w' ⟨s0,s1⟩
         go_simp
         with_reducible rfl
       rotate_left
       · simp only [Act.put,List.setIfInBounds_toArray,List.set_cons_zero,List.set_cons_succ,zC,zK]
         rfl
       refine one_ (i:=2) (N:=some 67) #[true,true,true,false,false] rfl rfl (by kernel_rfl) (by decide) (fun K hK=>?_)
       refine goes_ Try.func75 (by kernel_rfl) rfl #[.int .i64 x12_3] (by rfl) rfl rfl (by (try simp only [List.map_toArray,List.map_cons,List.map_nil]);first|done|rfl|(simp only [List.length_drop,List.length_take];rfl)) ?_
       with_reducible refine (zi.calls k3 x12_3 t113 t114 _ A31.out).mono ?_
       rintro e w39 ⟨rfl,hb⟩
       refine ⟨_,rfl,?_⟩
       have n0_:=z3.mk (Kd.zz (by (with_reducible repeat (first|apply Kd.zl|apply Kd.zm|apply Kd.zw));exact HO_8.out) hb)
       have n1_:=z3.mk (zk (g:=gb104) (o:=.cells #[.int .u64 x105000_3,.int .u64 x105001_3] 61 (0,0)) (by (with_reducible repeat (first|refine z5 ?_ _|refine z7 ?_|refine z4 ?_ _));exact BK104.out) hb)
       have n2_:=z3.mk (za (by repeat (first|(with_reducible first|exact HB.out|apply z2|apply z0|apply z1|refine z6 ?_ GE104.out)|exact HB.out)) hb)
       clear HO_8
       clear BK104
       clear HB
       have HO_8:=n0_
       have BK104:=n1_
       have HB:=n2_
       clear n0_ n1_ n2_
       (try clear hb)
       (try clear hb2)
       (try clear hk)
       (try clear hi)
       refine hK.out _ _ ⟨(ze BK104.out 0).trans rfl,(ze BK104.out 1).trans rfl⟩ (fun hHeld=>?_)
       clear hK K
       refine norm_ (a':=?_) ?_ ?_
       rotate_left
       · show Act.put _ (some 67) _ = _
         simp only [Act.put,List.setIfInBounds_toArray,List.set_cons_zero,List.set_cons_succ,zC,zK]
         rfl
       refine one_ (i:=3) (N:=some 68) #[true,true,true,true,false] rfl rfl (by kernel_rfl) (by decide) (fun K hK=>?_)
       refine goes_ Try.func74 (by kernel_rfl) rfl #[.agg #[.int .u64 x105000_3,.int .u64 x105001_3],.agg #[.int .u64 t113,.int .u64 t114]] (by rfl) rfl rfl (by (try simp only [List.map_toArray,List.map_cons,List.map_nil]);first|done|rfl|(simp only [List.length_drop,List.length_take];rfl)) ?_
       with_reducible refine (zM.calls x105000_3 x105001_3 t113 t114 t115 t116 _ A32.out).mono ?_
       rintro e w40 ⟨rfl,hb⟩
       refine ⟨_,rfl,?_⟩
       have n0_:=z3.mk (Kd.zz (by (with_reducible repeat (first|apply Kd.zl|apply Kd.zm|apply Kd.zw));exact HO_8.out) hb)
       have n1_:=z3.mk (zk (g:=gb104) (o:=.cells #[.int .u64 x105000_3,.int .u64 x105001_3] 61 (0,0)) (by (with_reducible repeat (first|refine z5 ?_ _|refine z7 ?_|refine z4 ?_ _));exact BK104.out) hb)
       have n2_:=z3.mk (za (by repeat (first|(with_reducible first|exact HB.out|apply z2|apply z0|apply z1|refine z6 ?_ GE104.out)|exact HB.out)) hb)
       clear HO_8
       clear BK104
       clear HB
       have HO_8:=n0_
       have BK104:=n1_
       have HB:=n2_
       clear n0_ n1_ n2_
       (try clear hb)
       (try clear hb2)
       (try clear hk)
       (try clear hi)
       refine hK.out _ _ ⟨(ze BK104.out 0).trans rfl,(ze BK104.out 1).trans rfl⟩ (fun hHeld=>?_)
       clear hK K
       refine norm_ (a':=?_) ?_ ?_
       rotate_left
       · show Act.put _ (some 68) _ = _
         simp only [Act.put,List.setIfInBounds_toArray,List.set_cons_zero,List.set_cons_succ,zC,zK]
         rfl
       refine last_ (i:=4) (N:=none) #[true,true,true,true,true] rfl rfl (by kernel_rfl) (by decide) (fun K hK=>?_)
       have hs41 : w40.cell? ⟨gb104,0,none⟩ = some (.int .u64 x105000_3):=(ze BK104.out 0).trans rfl
       have hfs41:=zd BK104.out 0
       have hs42 : w40.cell? ⟨gb104,1,none⟩ = some (.int .u64 x105001_3):=(ze BK104.out 1).trans rfl
       have hfs42:=zd BK104.out 1
       refine skip_ (w1:=?_) (by rfl) rfl ?_ ?_
       rotate_left
       · go_simp
         rfl
       refine hK.out _ _ ?_
       clear hK K
       refine done_ (by kernel_rfl) ?_
       try go_wp2
       go_roundg k3
       case measure=>have:=HJ3.out;have:=HK2.out;have:=HK3.out;omega
       case rel=>exact ⟨(wrap64 (x12_3 + 1)),(t115),(t116),(by first|rfl|(simp;done)|(simp [*];done)),H',⟨by have:=HJ3.out;have:=HK2.out;have:=HK3.out;omega⟩,⟨by (with_reducible repeat (first|apply Kd.zl|apply Kd.zm|apply Kd.zw));exact Kd.z1f (Kd.z2j (p:=⟨gb104,1,none⟩) (Kd.z2j (p:=⟨gb104,0,none⟩) (Kd.z1f HO_8.out (fun k_ hk=>(⟨hk,hk⟩ : _ ∧ k_ ≠ gb104))) (fun _ hk=>hk.2) (.int .u64 t115)) (fun _ hk=>hk.2) (.int .u64 t116)) (fun _ hk=>hk.1)⟩,⟨by (with_reducible repeat (first|refine z5 ?_ _|refine z7 ?_|refine z4 ?_ _));refine zH (cs:=#[.int .u64 t115,.int .u64 x105001_3]) ?_ 1 _ rfl;(with_reducible repeat (first|refine z5 ?_ _|refine z7 ?_|refine z4 ?_ _));refine zH (cs:=#[.int .u64 x105000_3,.int .u64 x105001_3]) ?_ 0 _ rfl;(with_reducible repeat (first|refine z5 ?_ _|refine z7 ?_|refine z4 ?_ _));exact BK104.out⟩,⟨by repeat (first|(with_reducible first|exact HB.out|apply z2|apply z0|apply z1|refine z6 ?_ GE104.out)|exact HB.out)⟩⟩
end Go.Proofs.Ytngcaphdkgihmaa.P
namespace Go.Proofs.Ytngcaphdkgihmaa.P
open Go.RowKit Go.Proofs.YtngcaphdkgihmaaW.PrintWords Go.Proofs.YtngcaphdkgihmaaW.PrintLast Go.Proofs.YtngcaphdkgihmaaW.PrintMore
attribute [local go_sem] zU zW z15 z16 zQ zR zV zX   -- for this text's walks alone
set_option linter.unusedVariables false
set_option linter.unusedSimpArgs false
mutual
def z8.j0 : Nat → Int → Int → List (S61) → List (S61) → Bool → Option ((List (S61)) × Int)
 | 0,_,_,_,_,_=>none
 | k + 1,x0,x1,x2,x8,x23=>if x23 = true then (some (([] : List (S61)),1)) else ((zn.f k x1 x2).bind fun t101=>(if t101 = true then (z8.l0 k x0 x1 x2 x8 0) else (some (([] : List (S61)),5))))
def z8.l0 : Nat → Int → Int → List (S61) → List (S61) → Int → Option ((List (S61)) × Int)
 | 0,_,_,_,_,_=>none
 | k + 1,x0,x1,x2,x8,x9=>if x9 < (x2.length : Int) then (z8.l1 k x0 x1 x2 x8 x9 0) else (some (x8,0))
def z8.l1 : Nat → Int → Int → List (S61) → List (S61) → Int → Int → Option ((List (S61)) × Int)
 | 0,_,_,_,_,_,_=>none
 | k + 1,x0,x1,x2,x8,x9,x10=>(zr.f x1).bind fun t102=>(if x10 < t102 then (z8.l2 k x0 x1 x2 x8 x9 x10 0 0 0) else (z8.l0 k x0 x1 x2 x8 (wrap64 (x9 + 1))))
def z8.l2 : Nat → Int → Int → List (S61) → List (S61) → Int → Int → Int → Int → Int → Option ((List (S61)) × Int)
 | 0,_,_,_,_,_,_,_,_,_=>none
 | k + 1,x0,x1,x2,x8,x9,x10,x12,x104000,x104001=>(zr.f x0).bind fun t104=>(if x12 < t104 then (if 0 ≤ x9 then (if x9 < (x2.length : Int) then ((zt.f k ((z14 x2 x9).f0) ((z14 x2 x9).f1) (wrap64 (x10 + x12))).bind fun t110=>(if t110 = true then ((zi.f k x12).bind fun bt111=>((zM.f x104000 x104001 bt111.1 bt111.2).bind fun bt113=>(z8.l2 k x0 x1 x2 x8 x9 x10 (wrap64 (x12 + 1)) bt113.1 bt113.2))) else (z8.l2 k x0 x1 x2 x8 x9 x10 (wrap64 (x12 + 1)) x104000 x104001))) else (none)) else (none)) else (if x8.length < 8796093022208 then ((zr.f x0).bind fun t108=>(z8.l1 k x0 x1 x2 (x8 ++ [(⟨x104000,x104001⟩ : S61)]) x9 (wrap64 (x10 + t108)))) else (none)))
end
def z8.f (k : Nat) (a0 : Int) (a1 : Int) (l2 : List (S61)) : Option ((List (S61)) × Int):=if a0 < 0 then (z8.j0 k a0 a1 l2 ([] : List (S61)) true) else (if a1 > 7 then (z8.j0 k a0 a1 l2 ([] : List (S61)) true) else (z8.j0 k a0 a1 l2 ([] : List (S61)) (decide (a1 < a0))))
theorem z8.z12 : ∀ k,(∀ y0 y1 y2 y3 y4,LeO (z8.j0 k y0 y1 y2 y3 y4) (z8.j0 (k + 1) y0 y1 y2 y3 y4)) ∧ (∀ y0 y1 y2 y3 y4,LeO (z8.l0 k y0 y1 y2 y3 y4) (z8.l0 (k + 1) y0 y1 y2 y3 y4)) ∧ (∀ y0 y1 y2 y3 y4 y5,LeO (z8.l1 k y0 y1 y2 y3 y4 y5) (z8.l1 (k + 1) y0 y1 y2 y3 y4 y5)) ∧ (∀ y0 y1 y2 y3 y4 y5 y6 y7 y8,LeO (z8.l2 k y0 y1 y2 y3 y4 y5 y6 y7 y8) (z8.l2 (k + 1) y0 y1 y2 y3 y4 y5 y6 y7 y8))
 | 0=>⟨fun _ _ _ _ _ r h=>by simp [z8.j0] at h,fun _ _ _ _ _ r h=>by simp [z8.l0] at h,fun _ _ _ _ _ _ r h=>by simp [z8.l1] at h,fun _ _ _ _ _ _ _ _ _ r h=>by simp [z8.l2] at h⟩
 | k + 1=>by
  obtain ⟨ih0,ih1,ih2,ih3⟩:=z8.z12 k
  refine ⟨?_,?_,?_,?_⟩
  · intro y0 y1 y2 y3 y4
    unfold z8.j0
    repeat' first
    | (with_reducible exact ih0 _ _ _ _ _)
    | (with_reducible exact ih1 _ _ _ _ _)
    | (with_reducible exact ih2 _ _ _ _ _ _)
    | (with_reducible exact ih3 _ _ _ _ _ _ _ _ _)
    | (with_reducible exact zi.mono _ _)
    | (with_reducible exact zt.mono _ _ _ _)
    | (with_reducible exact zn.mono _ _ _)
    | (with_reducible exact LeO.refl _)
    | (with_reducible exact LeO.none _)
    | (with_reducible refine LeO.ite ?_ ?_)
    | (with_reducible refine LeO.bind ?_ (fun _=>?_))
    | exact ih0 _ _ _ _ _
    | exact ih1 _ _ _ _ _
    | exact ih2 _ _ _ _ _ _
    | exact ih3 _ _ _ _ _ _ _ _ _
    | exact zi.mono _ _
    | exact zt.mono _ _ _ _
    | exact zn.mono _ _ _
    | exact LeO.none _
    | refine LeO.ite ?_ ?_
    | refine LeO.bind ?_ (fun _=>?_)
  · intro y0 y1 y2 y3 y4
    unfold z8.l0
    repeat' first
    | (with_reducible exact ih0 _ _ _ _ _)
    | (with_reducible exact ih1 _ _ _ _ _)
    | (with_reducible exact ih2 _ _ _ _ _ _)
    | (with_reducible exact ih3 _ _ _ _ _ _ _ _ _)
    | (with_reducible exact zi.mono _ _)
    | (with_reducible exact zt.mono _ _ _ _)
    | (with_reducible exact zn.mono _ _ _)
    | (with_reducible exact LeO.refl _)
    | (with_reducible exact LeO.none _)
    | (with_reducible refine LeO.ite ?_ ?_)
    | (with_reducible refine LeO.bind ?_ (fun _=>?_))
    | exact ih0 _ _ _ _ _
    | exact ih1 _ _ _ _ _
    | exact ih2 _ _ _ _ _ _
    | exact ih3 _ _ _ _ _ _ _ _ _
    | exact zi.mono _ _
    | exact zt.mono _ _ _ _
    | exact zn.mono _ _ _
    | exact LeO.none _
    | refine LeO.ite ?_ ?_
    | refine LeO.bind ?_ (fun _=>?_)
  · intro y0 y1 y2 y3 y4 y5
    unfold z8.l1
    repeat' first
    | (with_reducible exact ih0 _ _ _ _ _)
    | (with_reducible exact ih1 _ _ _ _ _)
    | (with_reducible exact ih2 _ _ _ _ _ _)
    | (with_reducible exact ih3 _ _ _ _ _ _ _ _ _)
    | (with_reducible exact zi.mono _ _)
    | (with_reducible exact zt.mono _ _ _ _)
    | (with_reducible exact zn.mono _ _ _)
    | (with_reducible exact LeO.refl _)
    | (with_reducible exact LeO.none _)
    | (with_reducible refine LeO.ite ?_ ?_)
    | (with_reducible refine LeO.bind ?_ (fun _=>?_))
    | exact ih0 _ _ _ _ _
    | exact ih1 _ _ _ _ _
    | exact ih2 _ _ _ _ _ _
    | exact ih3 _ _ _ _ _ _ _ _ _
    | exact zi.mono _ _
    | exact zt.mono _ _ _ _
    | exact zn.mono _ _ _
    | exact LeO.none _
    | refine LeO.ite ?_ ?_
    | refine LeO.bind ?_ (fun _=>?_)
  · intro y0 y1 y2 y3 y4 y5 y6 y7 y8
    unfold z8.l2
    repeat' first
    | (with_reducible exact ih0 _ _ _ _ _)
    | (with_reducible exact ih1 _ _ _ _ _)
    | (with_reducible exact ih2 _ _ _ _ _ _)
    | (with_reducible exact ih3 _ _ _ _ _ _ _ _ _)
    | (with_reducible exact zi.mono _ _)
    | (with_reducible exact zt.mono _ _ _ _)
    | (with_reducible exact zn.mono _ _ _)
    | (with_reducible exact LeO.refl _)
    | (with_reducible exact LeO.none _)
    | (with_reducible refine LeO.ite ?_ ?_)
    | (with_reducible refine LeO.bind ?_ (fun _=>?_))
    | exact ih0 _ _ _ _ _
    | exact ih1 _ _ _ _ _
    | exact ih2 _ _ _ _ _ _
    | exact ih3 _ _ _ _ _ _ _ _ _
    | exact zi.mono _ _
    | exact zt.mono _ _ _ _
    | exact zn.mono _ _ _
    | exact LeO.none _
    | refine LeO.ite ?_ ?_
    | refine LeO.bind ?_ (fun _=>?_)
theorem z8.mono : ∀ a0 a1 a2 k,LeO (z8.f k a0 a1 a2) (z8.f (k + 1) a0 a1 a2):=by
 intro a0 a1 a2 k
 obtain ⟨ih0,ih1,ih2,ih3⟩:=z8.z12 k
 unfold z8.f
 repeat' first
  | (with_reducible exact ih0 _ _ _ _ _)
  | (with_reducible exact ih1 _ _ _ _ _)
  | (with_reducible exact ih2 _ _ _ _ _ _)
  | (with_reducible exact ih3 _ _ _ _ _ _ _ _ _)
  | (with_reducible exact zi.mono _ _)
  | (with_reducible exact zt.mono _ _ _ _)
  | (with_reducible exact zn.mono _ _ _)
  | (with_reducible exact LeO.refl _)
  | (with_reducible exact LeO.none _)
  | (with_reducible refine LeO.ite ?_ ?_)
  | (with_reducible refine LeO.bind ?_ (fun _=>?_))
  | exact ih0 _ _ _ _ _
  | exact ih1 _ _ _ _ _
  | exact ih2 _ _ _ _ _ _
  | exact ih3 _ _ _ _ _ _ _ _ _
  | exact zi.mono _ _
  | exact zt.mono _ _ _ _
  | exact zn.mono _ _ _
  | exact LeO.none _
  | refine LeO.ite ?_ ?_
  | refine LeO.bind ?_ (fun _=>?_)
set_option maxHeartbeats 8000000 in
set_option maxRecDepth 100000 in
theorem z8.calls (k : Nat) (a0 : Int) (a1 : Int) (A2 : Option Addr) (c2 : Nat) (l2 : List (S61)) (r1 : List (S61)) (r2 : Int) (w : World) (hr2 : Kd.C k61 w A2 l2.length l2) (hc2 : l2.length ≤ c2) (h : z8.f k a0 a1 l2 = some (r1,r2)) :
 Calls Try.prog 33 #[.int .i64 a0,.int .i64 a1,.slice A2 l2.length c2] w fun e w'=>∃ v0_ : Value,e = .returned (.tuple #[v0_,.int .i64 r2]) ∧ Kd.R k61 61 w' w.heap.size (fun _=>True) v0_ r1 ∧ Below w.heap.size w w':=by
 have hu61:=Try.underlying61
 have HR2:=z3.mk hr2
 have HC2:=z3.mk hc2
 clear hr2 hc2
 have HB:=z3.mk (Below.refl w.heap.size w)
 have H : (if a0 < 0 then (z8.j0 k a0 a1 l2 ([] : List (S61)) true) else (if a1 > 7 then (z8.j0 k a0 a1 l2 ([] : List (S61)) true) else (z8.j0 k a0 a1 l2 ([] : List (S61)) (decide (a1 < a0))))) = some (r1,r2):=h
 clear h
 have HC4:=z3.mk H
 clear H
 go_enter Try.func33,Try.ntmps33
 go_upto_region 2 with (fail)
 go_cut [23] (fun v23 wc=>∃ (kq : Nat) (x23_3 : Bool),v23 = .bool x23_3 ∧ z3 (z8.j0 kq a0 a1 l2 ([] : List (S61)) x23_3 = some (r1,r2)) ∧ z3 (kq ≤ k) ∧ z3 (Kd.R k61 61 wc w.heap.size (fun _=>True) (.slice none 0 0) ([] : List (S61))) ∧ z3 (Below w.heap.size w wc))
 case first =>
  have H:=HC4.out
  clear HC4
  by_cases c5 : a0 < 0
  · rw [if_pos c5] at H
    have c5b0 : decide (a0 < 0) = true:=decide_eq_true c5
    clear c5
    (first|rw [c5b0]|(simp only [zC,zK];rw [c5b0])|skip)
    have H':=z3.mk H
    clear H
    go_wp2
    go_meet
    case rel=>exact ⟨_,(true),(by first|rfl|(simp;done)|(simp [*];done)),H',⟨by first|omega|exact Nat.le_refl _⟩,⟨by first|exact Kd.z1G _ _ _ _ _|exact Kd.z1P _ _ _ _ _|exact Kd.z1S _ _ _ _ _|exact Kd.z1Q _ _ _ _ _|exact Kd.z1R _ _ _ _ _⟩,⟨by repeat (first|(with_reducible first|exact HB.out|apply z2|apply z0|apply z1)|exact HB.out)⟩⟩
  rw [if_neg c5] at H
  have c5b0 : decide (a0 < 0) = false:=decide_eq_false c5
  clear c5
  (first|rw [c5b0]|(simp only [zC,zK];rw [c5b0])|skip)
  by_cases c6 : a1 > 7
  rotate_left
  · rw [if_neg c6] at H
    have c6b0 : decide (7 < a1) = false:=decide_eq_false c6
    clear c6
    have H':=z3.mk H
    clear H
    go_wp2
    go_meet
    case rel=>exact ⟨_,(decide (a1 < a0)),(by first|rfl|(simp;done)|(simp [*];done)),H',⟨by first|omega|exact Nat.le_refl _⟩,⟨by first|exact Kd.z1G _ _ _ _ _|exact Kd.z1P _ _ _ _ _|exact Kd.z1S _ _ _ _ _|exact Kd.z1Q _ _ _ _ _|exact Kd.z1R _ _ _ _ _⟩,⟨by repeat (first|(with_reducible first|exact HB.out|apply z2|apply z0|apply z1)|exact HB.out)⟩⟩
  rw [if_pos c6] at H
  have c6b0 : decide (7 < a1) = true:=decide_eq_true c6
  clear c6
  have H':=z3.mk H
  clear H
  go_wp2
  go_meet
  case rel=>exact ⟨_,(true),(by first|rfl|(simp;done)|(simp [*];done)),H',⟨by first|omega|exact Nat.le_refl _⟩,⟨by first|exact Kd.z1G _ _ _ _ _|exact Kd.z1P _ _ _ _ _|exact Kd.z1S _ _ _ _ _|exact Kd.z1Q _ _ _ _ _|exact Kd.z1R _ _ _ _ _⟩,⟨by repeat (first|(with_reducible first|exact HB.out|apply z2|apply z0|apply z1)|exact HB.out)⟩⟩
 case rest =>
  clear HC4
  (try clear c2);(try clear p2);(try clear c3);(try clear c5);(try clear c5b0);(try clear c6);(try clear c6b0)
  obtain ⟨kq,x23_3,rfl,HA,HJ3,HO_8,HB⟩:=hcut
  cases kq with
  | zero=>exact absurd HA.out (by simp [z8.j0])
  | succ kj3 =>
   have H:=HA.out
   clear HA
   simp only [z8.j0] at H
   by_cases c7 : x23_3 = true
   · subst c7
     have H1 : (some (([] : List (S61)),1)) = some (r1,r2):=by rw [if_pos rfl] at H;exact H
     clear H
     have H:=H1
     clear H1
     simp only [Option.some.injEq,Prod.mk.injEq] at H
     obtain ⟨rfl,rfl⟩:=H
     go_wp2
     go_ret2
     exact ⟨_,by first|rfl|(simp [zf,zg] <;> rfl)|(simp [*,zf,zg] <;> rfl),by first|exact Kd.z1G _ _ _ _ _|exact Kd.z1P _ _ _ _ _|exact Kd.z1S _ _ _ _ _|exact Kd.z1Q _ _ _ _ _|exact Kd.z1R _ _ _ _ _,by repeat (first|(with_reducible first|exact HB.out|apply z2|apply z0|apply z1)|exact HB.out)⟩
   replace c7:=Bool.eq_false_iff.mpr c7
   subst c7
   have H1 : ((zn.f kj3 a1 l2).bind fun t101=>(if t101 = true then (z8.l0 kj3 a0 a1 l2 ([] : List (S61)) 0) else (some (([] : List (S61)),5)))) = some (r1,r2):=by rw [if_neg (show ¬ (false = true) by decide)] at H;exact H
   clear H
   have H:=H1
   clear H1
   replace H:=Option.bind_eq_some_iff.mp H
   obtain ⟨t101,A80,H⟩:=H
   replace H : (if t101 = true then (z8.l0 kj3 a0 a1 l2 ([] : List (S61)) 0) else (some (([] : List (S61)),5))) = some (r1,r2):=H
   have A8:=z3.mk A80
   clear A80
   by_cases c9 : t101 = true
   rotate_left
   · replace c9:=Bool.eq_false_iff.mpr c9
     subst c9
     have H1 : (some (([] : List (S61)),5)) = some (r1,r2):=by rw [if_neg (show ¬ (false = true) by decide)] at H;exact H
     clear H
     have H:=H1
     clear H1
     simp only [Option.some.injEq,Prod.mk.injEq] at H
     obtain ⟨rfl,rfl⟩:=H
     go_wp2_with (first|((with_reducible refine zq (f:=46) rfl ?_);refine goesL_ (some 26) rfl rfl Try.func46 (by kernel_rfl) rfl #[.int .i64 a1,.slice A2 l2.length c2] rfl (by (try simp only [List.map_toArray,List.map_cons,List.map_nil]);first|done|rfl|(simp only [List.length_drop,List.length_take];rfl)) ?_;(with_reducible refine (zn.calls kj3 a1 _ _ l2 false _ ?side1 ?side2 A8.out).mono ?_);(case side1=>repeat (first|exact (Kd.z22 HR2.out HB.out)|(with_reducible refine Kd.z1p ?_ _)|(with_reducible refine Kd.z1q ?_ _)|(with_reducible refine Kd.z1z ?_)));(case side2=>exact HC2.out);rintro e w40 ⟨rfl,hb⟩;refine ⟨_,rfl,?_⟩;have n0_:=z3.mk (Kd.zz (by (with_reducible repeat (first|apply Kd.zl|apply Kd.zm|apply Kd.zw));exact HO_8.out) hb);have n1_:=z3.mk (za (by repeat (first|(with_reducible first|exact HB.out|apply z2|apply z0|apply z1)|exact HB.out)) hb);clear HO_8;clear HB;have HO_8:=n0_;have HB:=n1_;clear n0_ n1_;(try clear hb);(try clear hb2);(try clear hk);(try clear hi)))
     go_ret2
     exact ⟨_,by first|rfl|(simp [zf,zg] <;> rfl)|(simp [*,zf,zg] <;> rfl),by first|exact Kd.z1G _ _ _ _ _|exact Kd.z1P _ _ _ _ _|exact Kd.z1S _ _ _ _ _|exact Kd.z1Q _ _ _ _ _|exact Kd.z1R _ _ _ _ _,by repeat (first|(with_reducible first|exact HB.out|apply z2|apply z0|apply z1)|exact HB.out)⟩
   subst c9
   have H1 : (z8.l0 kj3 a0 a1 l2 ([] : List (S61)) 0) = some (r1,r2):=by rw [if_pos rfl] at H;exact H
   clear H
   have H:=H1
   clear H1
   have H':=z3.mk H
   clear H
   go_wp2_with (first|((with_reducible refine zq (f:=46) rfl ?_);refine goesL_ (some 26) rfl rfl Try.func46 (by kernel_rfl) rfl #[.int .i64 a1,.slice A2 l2.length c2] rfl (by (try simp only [List.map_toArray,List.map_cons,List.map_nil]);first|done|rfl|(simp only [List.length_drop,List.length_take];rfl)) ?_;(with_reducible refine (zn.calls kj3 a1 _ _ l2 true _ ?side1 ?side2 A8.out).mono ?_);(case side1=>repeat (first|exact (Kd.z22 HR2.out HB.out)|(with_reducible refine Kd.z1p ?_ _)|(with_reducible refine Kd.z1q ?_ _)|(with_reducible refine Kd.z1z ?_)));(case side2=>exact HC2.out);rintro e w10 ⟨rfl,hb⟩;refine ⟨_,rfl,?_⟩;have n0_:=z3.mk (Kd.zz (by (with_reducible repeat (first|apply Kd.zl|apply Kd.zm|apply Kd.zw));exact HO_8.out) hb);have n1_:=z3.mk (za (by repeat (first|(with_reducible first|exact HB.out|apply z2|apply z0|apply z1)|exact HB.out)) hb);clear HO_8;clear HB;have HO_8:=n0_;have HB:=n1_;clear n0_ n1_;(try clear hb);(try clear hb2);(try clear hk);(try clear hi)))
   go_loopg [8,9] kj3 (fun kq v8 v9 w'=>∃ (x8_2 : List (S61)) (x9_2 : Int),v9 = .int .i64 x9_2 ∧ z3 (z8.l0 kq a0 a1 l2 x8_2 x9_2 = some (r1,r2)) ∧ z3 (kq ≤ kj3) ∧ z3 (Kd.R k61 61 w' w.heap.size (fun _=>True) v8 x8_2) ∧ z3 (Below w.heap.size w w'))
   case atStart=>exact ⟨(([] : List (S61))),(0),(by first|rfl|(simp;done)|(simp [*];done)),H',⟨Nat.le_refl _⟩,⟨by (with_reducible repeat (first|apply Kd.zl|apply Kd.zm|apply Kd.zw));exact HO_8.out⟩,⟨by repeat (first|(with_reducible first|exact HB.out|apply z2|apply z0|apply z1)|exact HB.out)⟩⟩
   case round =>
    clear H'
    (try clear c2);(try clear p2);(try clear c3);(try clear c4);(try clear c5);(try clear c5b0);(try clear c6);(try clear c6b0);(try clear c7);(try clear c9);(try clear p2)
    obtain ⟨x8_2,x9_2,rfl,HA,HK2,HO_8,HB⟩:=hrel
    cases gk with
    | zero=>exact absurd HA.out (by simp [z8.l0])
    | succ k2 =>
     have H:=HA.out
     clear HA
     simp only [z8.l0] at H
     by_cases c11 : x9_2 < (l2.length : Int)
     rotate_left
     · rw [if_neg c11] at H
       have c11b0 : decide (x9_2 < (l2.length : Int)) = false:=decide_eq_false c11
       clear c11
       simp only [Option.some.injEq,Prod.mk.injEq] at H
       obtain ⟨rfl,rfl⟩:=H
       go_wp2
       go_ret2
       exact ⟨_,by first|rfl|(simp [zf,zg] <;> rfl)|(simp [*,zf,zg] <;> rfl),by (with_reducible repeat (first|apply Kd.zl|apply Kd.zm|apply Kd.zw));exact HO_8.out,by repeat (first|(with_reducible first|exact HB.out|apply z2|apply z0|apply z1)|exact HB.out)⟩
     rw [if_pos c11] at H
     have c11b0 : decide (x9_2 < (l2.length : Int)) = true:=decide_eq_true c11
     clear c11
     have H':=z3.mk H
     clear H
     go_wp2
     go_loopg [8,10] k2 (fun kq v8 v10 w'=>∃ (x8_3 : List (S61)) (x10_3 : Int),v10 = .int .i64 x10_3 ∧ z3 (z8.l1 kq a0 a1 l2 x8_3 x9_2 x10_3 = some (r1,r2)) ∧ z3 (kq ≤ k2) ∧ z3 (Kd.R k61 61 w' w.heap.size (fun _=>True) v8 x8_3) ∧ z3 (Below w.heap.size w w'))
     case atStart=>exact ⟨(x8_2),(0),(by first|rfl|(simp;done)|(simp [*];done)),H',⟨Nat.le_refl _⟩,⟨by (with_reducible repeat (first|apply Kd.zl|apply Kd.zm|apply Kd.zw));exact HO_8.out⟩,⟨by repeat (first|(with_reducible first|exact HB.out|apply z2|apply z0|apply z1)|exact HB.out)⟩⟩
     case round =>
      clear H'
      (try clear c1);(try clear c2);(try clear p2);(try clear c3);(try clear c4);(try clear c5);(try clear c5b0);(try clear c6);(try clear c6b0);(try clear c7);(try clear c9);(try clear c11);(try clear c11b0);(try clear p2)
      obtain ⟨x8_3,x10_3,rfl,HA,HK3,HO_8,HB⟩:=hrel
      cases gk with
      | zero=>exact absurd HA.out (by simp [z8.l1])
      | succ k3 =>
       have H:=HA.out
       clear HA
       simp only [z8.l1] at H
       replace H:=Option.bind_eq_some_iff.mp H
       obtain ⟨t102,A120,H⟩:=H
       replace H : (if x10_3 < t102 then (z8.l2 k3 a0 a1 l2 x8_3 x9_2 x10_3 0 0 0) else (z8.l0 k3 a0 a1 l2 x8_3 (wrap64 (x9_2 + 1)))) = some (r1,r2):=H
       have A12:=z3.mk A120
       clear A120
       by_cases c13 : x10_3 < t102
       rotate_left
       · rw [if_neg c13] at H
         have c13b0 : decide (x10_3 < t102) = false:=decide_eq_false c13
         clear c13
         have H':=z3.mk H
         clear H
         go_wp2_with (first|((with_reducible refine zq (f:=72) rfl ?_);refine goesL_ (some 36) rfl rfl Try.func72 (by kernel_rfl) rfl #[.int .i64 a1] rfl (by (try simp only [List.map_toArray,List.map_cons,List.map_nil]);first|done|rfl|(simp only [List.length_drop,List.length_take];rfl)) ?_;(with_reducible refine (zr.calls a1 t102 _ A12.out).mono ?_);rintro e w39 ⟨rfl,hb⟩;refine ⟨_,rfl,?_⟩;have n0_:=z3.mk (Kd.zz (by (with_reducible repeat (first|apply Kd.zl|apply Kd.zm|apply Kd.zw));exact HO_8.out) hb);have n1_:=z3.mk (za (by repeat (first|(with_reducible first|exact HB.out|apply z2|apply z0|apply z1)|exact HB.out)) hb);clear HO_8;clear HB;have HO_8:=n0_;have HB:=n1_;clear n0_ n1_;(try clear hb);(try clear hb2);(try clear hk);(try clear hi)))
         go_roundg k3
         case measure=>have:=HJ3.out;have:=HK2.out;have:=HK3.out;omega
         case rel=>exact ⟨(x8_3),(wrap64 (x9_2 + 1)),(by first|rfl|(simp;done)|(simp [*];done)),H',⟨by have:=HJ3.out;have:=HK2.out;have:=HK3.out;omega⟩,⟨by (with_reducible repeat (first|apply Kd.zl|apply Kd.zm|apply Kd.zw));exact HO_8.out⟩,⟨by repeat (first|(with_reducible first|exact HB.out|apply z2|apply z0|apply z1)|exact HB.out)⟩⟩
       rw [if_pos c13] at H
       have c13b0 : decide (x10_3 < t102) = true:=decide_eq_true c13
       clear c13
       have H':=z3.mk H
       clear H
       go_wp2_with (first|((with_reducible refine zq (f:=72) rfl ?_);refine goesL_ (some 36) rfl rfl Try.func72 (by kernel_rfl) rfl #[.int .i64 a1] rfl (by (try simp only [List.map_toArray,List.map_cons,List.map_nil]);first|done|rfl|(simp only [List.length_drop,List.length_take];rfl)) ?_;(with_reducible refine (zr.calls a1 t102 _ A12.out).mono ?_);rintro e w14 ⟨rfl,hb⟩;refine ⟨_,rfl,?_⟩;have n0_:=z3.mk (Kd.zz (by (with_reducible repeat (first|apply Kd.zl|apply Kd.zm|apply Kd.zw));exact HO_8.out) hb);have n1_:=z3.mk (za (by repeat (first|(with_reducible first|exact HB.out|apply z2|apply z0|apply z1)|exact HB.out)) hb);clear HO_8;clear HB;have HO_8:=n0_;have HB:=n1_;clear n0_ n1_;(try clear hb);(try clear hb2);(try clear hk);(try clear hi))|((with_reducible refine zA (N:=11) rfl ?_);refine zB ?hg (N:=11) ?hd (cs:=#[.int .u64 0,.int .u64 0]) (t:=61) ?hr ?_;(case hd=>rfl);(case hg=>rfl);(case hr=>first|(go_simp;done)|(go_simp;rfl));intro gb103 hg w15 hbox hb;have n0_:=z3.mk (Kd.zz (Kd.z2d (by (with_reducible repeat (first|apply Kd.zl|apply Kd.zm|apply Kd.zw));exact HO_8.out) gb103 (Nat.le_of_eq hg.symm)) hb);have n1_:=z3.mk (za (by repeat (first|(with_reducible first|exact HB.out|apply z2|apply z0|apply z1)|exact HB.out)) hb);have n2_:=z3.mk (hbox);have n3_:=z3.mk ((by rw [hg];exact (zc (by repeat (first|(with_reducible first|exact HB.out|apply z2|apply z0|apply z1)|exact HB.out))) : w.heap.size ≤ gb103));have n4_:=z3.mk ((by rw [hg];exact (zc (by repeat (first|(with_reducible first|exact HB.out|apply z2|apply z0|apply z1)|exact HB.out))) : w.heap.size ≤ gb103));clear HO_8;clear HB;have HO_8:=n0_;have HB:=n1_;have BK103:=n2_;have GW103:=n3_;have GE103:=n4_;clear n0_ n1_ n2_ n3_ n4_;clear hb hbox hg))
       go_loopg [12] k3 (fun kq v12 w'=>∃ (x12_4 : Int) (x104000_4 : Int) (x104001_4 : Int),v12 = .int .i64 x12_4 ∧ z3 (z8.l2 kq a0 a1 l2 x8_3 x9_2 x10_3 x12_4 x104000_4 x104001_4 = some (r1,r2)) ∧ z3 (kq ≤ k3) ∧ z3 (Kd.R k61 61 w' w.heap.size (fun k_=>k_ ≠ gb103) u8 x8_3) ∧ z3 (w'.heap[gb103]? = some (.cells #[.int .u64 x104000_4,.int .u64 x104001_4] 61 (0,0))) ∧ z3 (Below w.heap.size w w'))
       case atStart=>exact ⟨(0),(0),(0),(by first|rfl|(simp;done)|(simp [*];done)),H',⟨Nat.le_refl _⟩,⟨by (with_reducible repeat (first|apply Kd.zl|apply Kd.zm|apply Kd.zw));exact Kd.z1f HO_8.out (fun _ hk=>hk.2)⟩,⟨by (with_reducible repeat (first|refine z5 ?_ _|refine z7 ?_|refine z4 ?_ _));exact BK103.out⟩,⟨by repeat (first|(with_reducible first|exact HB.out|apply z2|apply z0|apply z1|refine z6 ?_ GE103.out)|exact HB.out)⟩⟩
       case round =>
        clear H'
        (try clear c1);(try clear c2);(try clear p2);(try clear c3);(try clear c4);(try clear c5);(try clear c5b0);(try clear c6);(try clear c6b0);(try clear p6);(try clear c7);(try clear c9);(try clear c11);(try clear c11b0);(try clear c13);(try clear c13b0);(try clear p2)
        obtain ⟨x12_4,x104000_4,x104001_4,rfl,HA,HK4,HO_8,BK103,HB⟩:=hrel
        cases gk with
        | zero=>exact absurd HA.out (by simp [z8.l2])
        | succ k4 =>
         have H:=HA.out
         clear HA
         simp only [z8.l2] at H
         replace H:=Option.bind_eq_some_iff.mp H
         obtain ⟨t104,A160,H⟩:=H
         replace H : (if x12_4 < t104 then (if 0 ≤ x9_2 then (if x9_2 < (l2.length : Int) then ((zt.f k4 ((z14 l2 x9_2).f0) ((z14 l2 x9_2).f1) (wrap64 (x10_3 + x12_4))).bind fun t110=>(if t110 = true then ((zi.f k4 x12_4).bind fun bt111=>((zM.f x104000_4 x104001_4 bt111.1 bt111.2).bind fun bt113=>(z8.l2 k4 a0 a1 l2 x8_3 x9_2 x10_3 (wrap64 (x12_4 + 1)) bt113.1 bt113.2))) else (z8.l2 k4 a0 a1 l2 x8_3 x9_2 x10_3 (wrap64 (x12_4 + 1)) x104000_4 x104001_4))) else (none)) else (none)) else (if x8_3.length < 8796093022208 then ((zr.f a0).bind fun t108=>(z8.l1 k4 a0 a1 l2 (x8_3 ++ [(⟨x104000_4,x104001_4⟩ : S61)]) x9_2 (wrap64 (x10_3 + t108)))) else (none))) = some (r1,r2):=H
         have A16:=z3.mk A160
         clear A160
         by_cases c17 : x12_4 < t104
         rotate_left
         · rw [if_neg c17] at H
           have c17b0 : decide (x12_4 < t104) = false:=decide_eq_false c17
           clear c17
           by_cases c33 : x8_3.length < 8796093022208
           rotate_left
           · rw [if_neg c33] at H
             exact absurd H (by simp)
           rw [if_pos c33] at H
           have LMc33:=z3.mk c33
           clear c33
           obtain ⟨y105,hy105⟩ : ∃ y_ : List (S61),y_ = (x8_3 ++ [(⟨x104000_4,x104001_4⟩ : S61)]):=⟨_,rfl⟩
           replace H : ((zr.f a0).bind fun t108=>(z8.l1 k4 a0 a1 l2 y105 x9_2 (wrap64 (x10_3 + t108)))) = some (r1,r2):=by first|(rw [hy105];with_reducible exact H)|(have H2_:=(Option.bind_some _ _).symm.trans H;rw [hy105];with_reducible exact H2_)|(have H2_:=(Option.bind_some _ _).symm.trans H;with_reducible exact H2_)|with_reducible exact H|(rw [hy105];exact H)|exact H
           have Ny105:=z3.mk hy105
           clear hy105
           replace H:=Option.bind_eq_some_iff.mp H
           obtain ⟨t108,A340,H⟩:=H
           replace H : (z8.l1 k4 a0 a1 l2 y105 x9_2 (wrap64 (x10_3 + t108))) = some (r1,r2):=H
           have A34:=z3.mk A340
           clear A340
           have H':=z3.mk H
           clear H
           go_wp2_with (first|((with_reducible refine zq (f:=72) rfl ?_);refine goesL_ (some 44) rfl rfl Try.func72 (by kernel_rfl) rfl #[.int .i64 a0] rfl (by (try simp only [List.map_toArray,List.map_cons,List.map_nil]);first|done|rfl|(simp only [List.length_drop,List.length_take];rfl)) ?_;(with_reducible refine (zr.calls a0 t104 _ A16.out).mono ?_);rintro e w35 ⟨rfl,hb⟩;refine ⟨_,rfl,?_⟩;have n0_:=z3.mk (Kd.zz (by (with_reducible repeat (first|apply Kd.zl|apply Kd.zm|apply Kd.zw));exact HO_8.out) hb);have n1_:=z3.mk (zk (g:=gb103) (o:=.cells #[.int .u64 x104000_4,.int .u64 x104001_4] 61 (0,0)) (by (with_reducible repeat (first|refine z5 ?_ _|refine z7 ?_|refine z4 ?_ _));exact BK103.out) hb);have n2_:=z3.mk (za (by repeat (first|(with_reducible first|exact HB.out|apply z2|apply z0|apply z1|refine z6 ?_ GE103.out)|exact HB.out)) hb);clear HO_8;clear BK103;clear HB;have HO_8:=n0_;have BK103:=n1_;have HB:=n2_;clear n0_ n1_ n2_;(try clear hb);(try clear hb2);(try clear hk);(try clear hi);have hcz36_0 : w35.cell? ⟨gb103,0,none⟩ = some (.int .u64 x104000_4):=(ze BK103.out 0).trans rfl;have hcz36_1 : w35.cell? ⟨gb103,1,none⟩ = some (.int .u64 x104001_4):=(ze BK103.out 1).trans rfl;have hfz36_0:=zd BK103.out 0;have hfz36_1:=zd BK103.out 1)|((with_reducible refine z1u (b:=.append) (xs:=#[.tmp 60,.tmp 62]) rfl ?_);at_builtin;refine Kd.z1Y k61 (w0:=w) w.heap.size rfl (.tmp 60) (.tmp 62) 43 61 (.agg #[(.int .u64 0),(.int .u64 0)]) 16 rfl Try.underlying43 info61 rfl (by decide) (by omega) u8 x8_3 (⟨x104000_4,x104001_4⟩ : S61) [.int .u64 x104000_4,.int .u64 x104001_4] (fun k_=>k_ ≠ gb103) (fun _=>False) rfl rfl ?aP (fun _ hk=>hk.elim) ?aF ?aO ?aB ?aS ?aL ?_;(case aP=>exact z3Q _ _ _ (⟨x104000_4,x104001_4⟩ : S61));(case aB=>exact (by repeat (first|(with_reducible first|exact HB.out|apply z2|apply z0|apply z1|refine z6 ?_ GE103.out)|exact HB.out)));(case aF=>exact (fun k_ hk=>Kd.freshB (g:=gb103) (o:=.cells #[.int .u64 x104000_4,.int .u64 x104001_4] 61 (0,0)) (by (with_reducible repeat (first|refine z5 ?_ _|refine z7 ?_|refine z4 ?_ _));exact BK103.out) k_ hk));(case aO=>exact (by (with_reducible repeat (first|apply Kd.zl|apply Kd.zm|apply Kd.zw));exact HO_8.out));(case aS=>exact (zc (by repeat (first|(with_reducible first|exact HB.out|apply z2|apply z0|apply z1|refine z6 ?_ GE103.out)|exact HB.out))));(case aL=>have:=LMc33.out;omega);intro v106 w37 ho hb hg hat;rw [← Ny105.out] at ho;have n0_:=z3.mk (z1N (g:=gb103) (o:=.cells #[.int .u64 x104000_4,.int .u64 x104001_4] 61 (0,0)) (by (with_reducible repeat (first|refine z5 ?_ _|refine z7 ?_|refine z4 ?_ _));exact BK103.out) hg (Kd.z3w HO_8.out (fun _ hk=>hk)));have n1_:=z3.mk (hb);have n2_:=z3.mk (ho);clear BK103;clear HB;clear HO_8;have BK103:=n0_;have HB:=n1_;have HO107:=n2_;clear n0_ n1_ n2_;clear ho hb hg hat)|((with_reducible refine zq (f:=72) rfl ?_);refine goesL_ (some 40) rfl rfl Try.func72 (by kernel_rfl) rfl #[.int .i64 a0] rfl (by (try simp only [List.map_toArray,List.map_cons,List.map_nil]);first|done|rfl|(simp only [List.length_drop,List.length_take];rfl)) ?_;(with_reducible refine (zr.calls a0 t108 _ A34.out).mono ?_);rintro e w38 ⟨rfl,hb⟩;refine ⟨_,rfl,?_⟩;have n0_:=z3.mk (Kd.zz (by (with_reducible repeat (first|apply Kd.zl|apply Kd.zm|apply Kd.zw));exact HO107.out) hb);have n1_:=z3.mk (zk (g:=gb103) (o:=.cells #[.int .u64 x104000_4,.int .u64 x104001_4] 61 (0,0)) (by (with_reducible repeat (first|refine z5 ?_ _|refine z7 ?_|refine z4 ?_ _));exact BK103.out) hb);have n2_:=z3.mk (za (by repeat (first|(with_reducible first|exact HB.out|apply z2|apply z0|apply z1|refine z6 ?_ GE103.out)|exact HB.out)) hb);clear HO107;clear BK103;clear HB;have HO107:=n0_;have BK103:=n1_;have HB:=n2_;clear n0_ n1_ n2_;(try clear hb);(try clear hb2);(try clear hk);(try clear hi)))
           go_roundg k4
           case measure=>have:=HJ3.out;have:=HK2.out;have:=HK3.out;have:=HK4.out;omega
           case rel=>exact ⟨(y105),(wrap64 (x10_3 + t108)),(by first|rfl|(simp;done)|(simp [*];done)),H',⟨by have:=HJ3.out;have:=HK2.out;have:=HK3.out;have:=HK4.out;omega⟩,⟨by (with_reducible repeat (first|apply Kd.zl|apply Kd.zm|apply Kd.zw));exact Kd.z1f HO107.out (fun _ hk=>trivial)⟩,⟨by repeat (first|(with_reducible first|exact HB.out|apply z2|apply z0|apply z1|refine z6 ?_ GE103.out)|exact HB.out)⟩⟩
         rw [if_pos c17] at H
         have c17b0 : decide (x12_4 < t104) = true:=decide_eq_true c17
         clear c17
         by_cases c18 : 0 ≤ x9_2
         rotate_left
         · rw [if_neg c18] at H
           exact absurd H (by simp)
         rw [if_pos c18] at H
         have c18b0 : decide (0 ≤ x9_2) = true:=decide_eq_true c18
         clear c18
         by_cases c19 : x9_2 < (l2.length : Int)
         rotate_left
         · rw [if_neg c19] at H
           exact absurd H (by simp)
         rw [if_pos c19] at H
         have c19b0 : decide (x9_2 < (l2.length : Int)) = true:=decide_eq_true c19
         clear c19
         replace H:=Option.bind_eq_some_iff.mp H
         obtain ⟨t110,A200,H⟩:=H
         replace H : (if t110 = true then ((zi.f k4 x12_4).bind fun bt111=>((zM.f x104000_4 x104001_4 bt111.1 bt111.2).bind fun bt113=>(z8.l2 k4 a0 a1 l2 x8_3 x9_2 x10_3 (wrap64 (x12_4 + 1)) bt113.1 bt113.2))) else (z8.l2 k4 a0 a1 l2 x8_3 x9_2 x10_3 (wrap64 (x12_4 + 1)) x104000_4 x104001_4)) = some (r1,r2):=H
         have A20:=z3.mk A200
         clear A200
         by_cases c21 : t110 = true
         rotate_left
         · replace c21:=Bool.eq_false_iff.mpr c21
           subst c21
           have H1 : (z8.l2 k4 a0 a1 l2 x8_3 x9_2 x10_3 (wrap64 (x12_4 + 1)) x104000_4 x104001_4) = some (r1,r2):=by rw [if_neg (show ¬ (false = true) by decide)] at H;exact H
           clear H
           have H:=H1
           clear H1
           have H':=z3.mk H
           clear H
           go_wp2_with (first|((with_reducible refine zq (f:=72) rfl ?_);refine goesL_ (some 44) rfl rfl Try.func72 (by kernel_rfl) rfl #[.int .i64 a0] rfl (by (try simp only [List.map_toArray,List.map_cons,List.map_nil]);first|done|rfl|(simp only [List.length_drop,List.length_take];rfl)) ?_;(with_reducible refine (zr.calls a0 t104 _ A16.out).mono ?_);rintro e w31 ⟨rfl,hb⟩;refine ⟨_,rfl,?_⟩;have n0_:=z3.mk (Kd.zz (by (with_reducible repeat (first|apply Kd.zl|apply Kd.zm|apply Kd.zw));exact HO_8.out) hb);have n1_:=z3.mk (zk (g:=gb103) (o:=.cells #[.int .u64 x104000_4,.int .u64 x104001_4] 61 (0,0)) (by (with_reducible repeat (first|refine z5 ?_ _|refine z7 ?_|refine z4 ?_ _));exact BK103.out) hb);have n2_:=z3.mk (za (by repeat (first|(with_reducible first|exact HB.out|apply z2|apply z0|apply z1|refine z6 ?_ GE103.out)|exact HB.out)) hb);clear HO_8;clear BK103;clear HB;have HO_8:=n0_;have BK103:=n1_;have HB:=n2_;clear n0_ n1_ n2_;(try clear hb);(try clear hb2);(try clear hk);(try clear hi);have p109 : 0 ≤ (x9_2 : Int):=of_decide_eq_true (by first|(with_reducible assumption)|assumption);have q109 : x9_2 < (l2.length : Int):=of_decide_eq_true (by first|(with_reducible assumption)|assumption);obtain ⟨ad109,e109,hx109_0,hx109_1⟩:=z2S HR2.out x9_2 p109 q109;cases e109;replace hx109_0:=(HB.out.cell (World.block_lt_of_cell? w _ hx109_0)).trans hx109_0;replace hx109_1:=(HB.out.cell (World.block_lt_of_cell? w _ hx109_1)).trans hx109_1;replace p109:=eq_true p109;replace q109:=eq_true q109)|((with_reducible refine zq (f:=73) rfl ?_);refine goesL_ (some 55) rfl rfl Try.func73 (by kernel_rfl) rfl #[.agg #[.int .u64 ((z14 l2 x9_2).f0),.int .u64 ((z14 l2 x9_2).f1)],.int .i64 (wrap64 (x10_3 + x12_4))] rfl (by (try simp only [List.map_toArray,List.map_cons,List.map_nil]);first|done|rfl|(simp only [List.length_drop,List.length_take];rfl)) ?_;(with_reducible refine (zt.calls k4 ((z14 l2 x9_2).f0) ((z14 l2 x9_2).f1) (wrap64 (x10_3 + x12_4)) false _ A20.out).mono ?_);rintro e w32 ⟨rfl,hb⟩;refine ⟨_,rfl,?_⟩;have n0_:=z3.mk (Kd.zz (by (with_reducible repeat (first|apply Kd.zl|apply Kd.zm|apply Kd.zw));exact HO_8.out) hb);have n1_:=z3.mk (zk (g:=gb103) (o:=.cells #[.int .u64 x104000_4,.int .u64 x104001_4] 61 (0,0)) (by (with_reducible repeat (first|refine z5 ?_ _|refine z7 ?_|refine z4 ?_ _));exact BK103.out) hb);have n2_:=z3.mk (za (by repeat (first|(with_reducible first|exact HB.out|apply z2|apply z0|apply z1|refine z6 ?_ GE103.out)|exact HB.out)) hb);clear HO_8;clear BK103;clear HB;have HO_8:=n0_;have BK103:=n1_;have HB:=n2_;clear n0_ n1_ n2_;(try clear hb);(try clear hb2);(try clear hk);(try clear hi)))
           go_roundg k4
           case measure=>have:=HJ3.out;have:=HK2.out;have:=HK3.out;have:=HK4.out;omega
           case rel=>exact ⟨(wrap64 (x12_4 + 1)),(x104000_4),(x104001_4),(by first|rfl|(simp;done)|(simp [*];done)),H',⟨by have:=HJ3.out;have:=HK2.out;have:=HK3.out;have:=HK4.out;omega⟩,⟨by (with_reducible repeat (first|apply Kd.zl|apply Kd.zm|apply Kd.zw));exact HO_8.out⟩,⟨by (with_reducible repeat (first|refine z5 ?_ _|refine z7 ?_|refine z4 ?_ _));exact BK103.out⟩,⟨by repeat (first|(with_reducible first|exact HB.out|apply z2|apply z0|apply z1|refine z6 ?_ GE103.out)|exact HB.out)⟩⟩
         subst c21
         have H1 : ((zi.f k4 x12_4).bind fun bt111=>((zM.f x104000_4 x104001_4 bt111.1 bt111.2).bind fun bt113=>(z8.l2 k4 a0 a1 l2 x8_3 x9_2 x10_3 (wrap64 (x12_4 + 1)) bt113.1 bt113.2))) = some (r1,r2):=by rw [if_pos rfl] at H;exact H
         clear H
         have H:=H1
         clear H1
         replace H:=Option.bind_eq_some_iff.mp H
         obtain ⟨⟨t111,t112⟩,A220,H⟩:=H
         replace H : ((zM.f x104000_4 x104001_4 t111 t112).bind fun bt113=>(z8.l2 k4 a0 a1 l2 x8_3 x9_2 x10_3 (wrap64 (x12_4 + 1)) bt113.1 bt113.2)) = some (r1,r2):=H
         have A22:=z3.mk A220
         clear A220
         replace H:=Option.bind_eq_some_iff.mp H
         obtain ⟨⟨t113,t114⟩,A230,H⟩:=H
         replace H : (z8.l2 k4 a0 a1 l2 x8_3 x9_2 x10_3 (wrap64 (x12_4 + 1)) t113 t114) = some (r1,r2):=H
         have A23:=z3.mk A230
         clear A230
         have H':=z3.mk H
         clear H
         try go_wp2_with (first|((with_reducible refine zq (f:=72) rfl ?_);refine goesL_ (some 44) rfl rfl Try.func72 (by kernel_rfl) rfl #[.int .i64 a0] rfl (by (try simp only [List.map_toArray,List.map_cons,List.map_nil]);first|done|rfl|(simp only [List.length_drop,List.length_take];rfl)) ?_;(with_reducible refine (zr.calls a0 t104 _ A16.out).mono ?_);rintro e w24 ⟨rfl,hb⟩;refine ⟨_,rfl,?_⟩;have n0_:=z3.mk (Kd.zz (by (with_reducible repeat (first|apply Kd.zl|apply Kd.zm|apply Kd.zw));exact HO_8.out) hb);have n1_:=z3.mk (zk (g:=gb103) (o:=.cells #[.int .u64 x104000_4,.int .u64 x104001_4] 61 (0,0)) (by (with_reducible repeat (first|refine z5 ?_ _|refine z7 ?_|refine z4 ?_ _));exact BK103.out) hb);have n2_:=z3.mk (za (by repeat (first|(with_reducible first|exact HB.out|apply z2|apply z0|apply z1|refine z6 ?_ GE103.out)|exact HB.out)) hb);clear HO_8;clear BK103;clear HB;have HO_8:=n0_;have BK103:=n1_;have HB:=n2_;clear n0_ n1_ n2_;(try clear hb);(try clear hb2);(try clear hk);(try clear hi);have p109 : 0 ≤ (x9_2 : Int):=of_decide_eq_true (by first|(with_reducible assumption)|assumption);have q109 : x9_2 < (l2.length : Int):=of_decide_eq_true (by first|(with_reducible assumption)|assumption);obtain ⟨ad109,e109,hx109_0,hx109_1⟩:=z2S HR2.out x9_2 p109 q109;cases e109;replace hx109_0:=(HB.out.cell (World.block_lt_of_cell? w _ hx109_0)).trans hx109_0;replace hx109_1:=(HB.out.cell (World.block_lt_of_cell? w _ hx109_1)).trans hx109_1;replace p109:=eq_true p109;replace q109:=eq_true q109)|((with_reducible refine zq (f:=73) rfl ?_);refine goesL_ (some 55) rfl rfl Try.func73 (by kernel_rfl) rfl #[.agg #[.int .u64 ((z14 l2 x9_2).f0),.int .u64 ((z14 l2 x9_2).f1)],.int .i64 (wrap64 (x10_3 + x12_4))] rfl (by (try simp only [List.map_toArray,List.map_cons,List.map_nil]);first|done|rfl|(simp only [List.length_drop,List.length_take];rfl)) ?_;(with_reducible refine (zt.calls k4 ((z14 l2 x9_2).f0) ((z14 l2 x9_2).f1) (wrap64 (x10_3 + x12_4)) true _ A20.out).mono ?_);rintro e w25 ⟨rfl,hb⟩;refine ⟨_,rfl,?_⟩;have n0_:=z3.mk (Kd.zz (by (with_reducible repeat (first|apply Kd.zl|apply Kd.zm|apply Kd.zw));exact HO_8.out) hb);have n1_:=z3.mk (zk (g:=gb103) (o:=.cells #[.int .u64 x104000_4,.int .u64 x104001_4] 61 (0,0)) (by (with_reducible repeat (first|refine z5 ?_ _|refine z7 ?_|refine z4 ?_ _));exact BK103.out) hb);have n2_:=z3.mk (za (by repeat (first|(with_reducible first|exact HB.out|apply z2|apply z0|apply z1|refine z6 ?_ GE103.out)|exact HB.out)) hb);clear HO_8;clear BK103;clear HB;have HO_8:=n0_;have BK103:=n1_;have HB:=n2_;clear n0_ n1_ n2_;(try clear hb);(try clear hb2);(try clear hk);(try clear hi)))
         have n0_:=z3.mk (Kd.zw HO_8.out)
         have n1_:=z3.mk (z7 BK103.out)
         have n2_:=z3.mk (z1 HB.out)
         clear HO_8
         clear BK103
         clear HB
         have HO_8:=n0_
         have BK103:=n1_
         have HB:=n2_
         clear n0_ n1_ n2_
         refine start_ (n:=5) (S:=fun w'=>w'.cell? ⟨gb103,0,none⟩ = some (.int .u64 x104000_4) ∧ w'.cell? ⟨gb103,1,none⟩ = some (.int .u64 x104001_4)) (ds:=[4]) #[false,false,false,false,false] (by kernel_rfl) rfl rfl ⟨(ze BK103.out 0).trans rfl,(ze BK103.out 1).trans rfl⟩ (fun hHeld=>?_)
         generalize w25.drew = w26 at HO_8 BK103 HB hHeld ⊢
         refine pure_ (i:=1) (N:=some 57) (v:=?_) (a':=?_) #[false,true,false,false,false] rfl rfl (by kernel_rfl) (fun _ _ _ h=>h) (Or.inl ⟨by rfl,?_⟩) ?_ ?_
         rotate_left
         · intro w'
           go_simp
           with_reducible rfl
         rotate_left
         · simp only [Act.put,List.setIfInBounds_toArray,List.set_cons_zero,List.set_cons_succ,zC,zK]
           rfl
         refine take_ (i:=0) (N:=some 56) (v:=?_) (a':=?_) #[true,true,false,false,false] rfl rfl (by kernel_rfl) (fun _ _ _ h=>h) (Or.inl ⟨by rfl,?_⟩) hHeld ?_ ?_
         rotate_left
         · rintro w' ⟨s0,s1⟩
           go_simp
           with_reducible rfl
         rotate_left
         · simp only [Act.put,List.setIfInBounds_toArray,List.set_cons_zero,List.set_cons_succ,zC,zK]
           rfl
         refine one_ (i:=2) (N:=some 58) #[true,true,true,false,false] rfl rfl (by kernel_rfl) (by decide) (fun K hK=>?_)
         refine goes_ Try.func75 (by kernel_rfl) rfl #[.int .i64 x12_4] (by rfl) rfl rfl (by (try simp only [List.map_toArray,List.map_cons,List.map_nil]);first|done|rfl|(simp only [List.length_drop,List.length_take];rfl)) ?_
         with_reducible refine (zi.calls k4 x12_4 t111 t112 _ A22.out).mono ?_
         rintro e w27 ⟨rfl,hb⟩
         refine ⟨_,rfl,?_⟩
         have n0_:=z3.mk (Kd.zz (by (with_reducible repeat (first|apply Kd.zl|apply Kd.zm|apply Kd.zw));exact HO_8.out) hb)
         have n1_:=z3.mk (zk (g:=gb103) (o:=.cells #[.int .u64 x104000_4,.int .u64 x104001_4] 61 (0,0)) (by (with_reducible repeat (first|refine z5 ?_ _|refine z7 ?_|refine z4 ?_ _));exact BK103.out) hb)
         have n2_:=z3.mk (za (by repeat (first|(with_reducible first|exact HB.out|apply z2|apply z0|apply z1|refine z6 ?_ GE103.out)|exact HB.out)) hb)
         clear HO_8
         clear BK103
         clear HB
         have HO_8:=n0_
         have BK103:=n1_
         have HB:=n2_
         clear n0_ n1_ n2_
         (try clear hb)
         (try clear hb2)
         (try clear hk)
         (try clear hi)
         refine hK.out _ _ ⟨(ze BK103.out 0).trans rfl,(ze BK103.out 1).trans rfl⟩ (fun hHeld=>?_)
         clear hK K
         refine norm_ (a':=?_) ?_ ?_
         rotate_left
         · show Act.put _ (some 58) _ = _
           simp only [Act.put,List.setIfInBounds_toArray,List.set_cons_zero,List.set_cons_succ,zC,zK]
           rfl
         refine one_ (i:=3) (N:=some 59) #[true,true,true,true,false] rfl rfl (by kernel_rfl) (by decide) (fun K hK=>?_)
         refine goes_ Try.func74 (by kernel_rfl) rfl #[.agg #[.int .u64 x104000_4,.int .u64 x104001_4],.agg #[.int .u64 t111,.int .u64 t112]] (by rfl) rfl rfl (by (try simp only [List.map_toArray,List.map_cons,List.map_nil]);first|done|rfl|(simp only [List.length_drop,List.length_take];rfl)) ?_
         with_reducible refine (zM.calls x104000_4 x104001_4 t111 t112 t113 t114 _ A23.out).mono ?_
         rintro e w28 ⟨rfl,hb⟩
         refine ⟨_,rfl,?_⟩
         have n0_:=z3.mk (Kd.zz (by (with_reducible repeat (first|apply Kd.zl|apply Kd.zm|apply Kd.zw));exact HO_8.out) hb)
         have n1_:=z3.mk (zk (g:=gb103) (o:=.cells #[.int .u64 x104000_4,.int .u64 x104001_4] 61 (0,0)) (by (with_reducible repeat (first|refine z5 ?_ _|refine z7 ?_|refine z4 ?_ _));exact BK103.out) hb)
         have n2_:=z3.mk (za (by repeat (first|(with_reducible first|exact HB.out|apply z2|apply z0|apply z1|refine z6 ?_ GE103.out)|exact HB.out)) hb)
         clear HO_8
         clear BK103
         clear HB
         have HO_8:=n0_
         have BK103:=n1_
         have HB:=n2_
         clear n0_ n1_ n2_
         (try clear hb)
         (try clear hb2)
         (try clear hk)
         (try clear hi)
         refine hK.out _ _ ⟨(ze BK103.out 0).trans rfl,(ze BK103.out 1).trans rfl⟩ (fun hHeld=>?_)
         clear hK K
         refine norm_ (a':=?_) ?_ ?_
         rotate_left
         · show Act.put _ (some 59) _ = _
           simp only [Act.put,List.setIfInBounds_toArray,List.set_cons_zero,List.set_cons_succ,zC,zK]
           rfl
         refine last_ (i:=4) (N:=none) #[true,true,true,true,true] rfl rfl (by kernel_rfl) (by decide) (fun K hK=>?_)
         have hs29 : w28.cell? ⟨gb103,0,none⟩ = some (.int .u64 x104000_4):=(ze BK103.out 0).trans rfl
         have hfs29:=zd BK103.out 0
         have hs30 : w28.cell? ⟨gb103,1,none⟩ = some (.int .u64 x104001_4):=(ze BK103.out 1).trans rfl
         have hfs30:=zd BK103.out 1
         refine skip_ (w1:=?_) (by rfl) rfl ?_ ?_
         rotate_left
         · go_simp
           rfl
         refine hK.out _ _ ?_
         clear hK K
         refine done_ (by kernel_rfl) ?_
         try go_wp2
         go_roundg k4
         case measure=>have:=HJ3.out;have:=HK2.out;have:=HK3.out;have:=HK4.out;omega
         case rel=>exact ⟨(wrap64 (x12_4 + 1)),(t113),(t114),(by first|rfl|(simp;done)|(simp [*];done)),H',⟨by have:=HJ3.out;have:=HK2.out;have:=HK3.out;have:=HK4.out;omega⟩,⟨by (with_reducible repeat (first|apply Kd.zl|apply Kd.zm|apply Kd.zw));exact Kd.z1f (Kd.z2j (p:=⟨gb103,1,none⟩) (Kd.z2j (p:=⟨gb103,0,none⟩) (Kd.z1f HO_8.out (fun k_ hk=>(⟨hk,hk⟩ : _ ∧ k_ ≠ gb103))) (fun _ hk=>hk.2) (.int .u64 t113)) (fun _ hk=>hk.2) (.int .u64 t114)) (fun _ hk=>hk.1)⟩,⟨by (with_reducible repeat (first|refine z5 ?_ _|refine z7 ?_|refine z4 ?_ _));refine zH (cs:=#[.int .u64 t113,.int .u64 x104001_4]) ?_ 1 _ rfl;(with_reducible repeat (first|refine z5 ?_ _|refine z7 ?_|refine z4 ?_ _));refine zH (cs:=#[.int .u64 x104000_4,.int .u64 x104001_4]) ?_ 0 _ rfl;(with_reducible repeat (first|refine z5 ?_ _|refine z7 ?_|refine z4 ?_ _));exact BK103.out⟩,⟨by repeat (first|(with_reducible first|exact HB.out|apply z2|apply z0|apply z1|refine z6 ?_ GE103.out)|exact HB.out)⟩⟩
end Go.Proofs.Ytngcaphdkgihmaa.P
/- Small elements gathered into great ones, and scattered: the document's way, bit by bit; and there and back. Own text. -/
namespace Go.Proofs.Ytngcaphdkgihmaa.Sp
open Go.RowKit Go.Proofs.YtngcaphdkgihmaaW.PrintWords Go.Proofs.YtngcaphdkgihmaaW.PrintMore Go.Proofs.Ytngcaphdkgihmaa.P Go.Proofs.Ytngcaphdkgihmaa.Ar Go.Proofs.Ytngcaphdkgihmaa.Tw
set_option linter.unusedVariables false
set_option linter.unusedSimpArgs false
theorem z1M (l : Nat) (h : l ≤ 7) : zr.f (l : Int) = some ((2 ^ l : Nat) : Int) := by
  unfold zr.f
  show (if 0 ≤ (l : Int) then (if (l : Int) < ((([1, 2, 4, 8, 16, 32, 64, 128] : List Int).length : Nat) : Int) then some (rd [1, 2, 4, 8, 16, 32, 64, 128] (l : Int)) else none) else none) = _
  rw [if_pos (Int.natCast_nonneg _), if_pos (by simp; omega), rdL l h]
theorem bitE_eq (n : Nat) : bitE n = of 7 (2 ^ n) := rfl
theorem z44 (v n : Nat) (hv : v < 2 ^ 128) (hn : n < 128) : of 7 (v % 2 ^ (n + 1)) = of 7 (v % 2 ^ n) + (if v.testBit n then bitE n else 0) := z4C (n := 7) v n (by rw [z37]; exact hv) (by simpa using hn)
theorem z4h {l t b m N : Nat} (hl7 : l ≤ 7) (ht7 : t ≤ 7) (eb : 2 ^ l = b) (eN : 2 ^ t = N) (hbm : b * m = N) (hb : 0 < b) (hb8 : b ≤ 128) (hN : N ≤ 128) (X : List E) (hX : X.length ≤ 1000000) (hA : AllS (l : Int) X) (A : List E) (hAl : A.length ≤ 1000000) (g gm : Nat) (egm : gm = g * m) (hg : gm + m ≤ X.length) (v : Nat) (ev : v = gv (fun j => val (X.getD (g * m + j) 0)) b m) (R : List S61 × Int)
    (h : Ev (fun q => zb.l0 q (l : Int) (t : Int) (X.map toR) ((A ++ [of 7 v]).map toR) (m : Int) (wrap64 ((gm : Int) + (m : Int)))) R) :
    ∀ (d n : Nat), n + d = N → Ev (fun q => zb.l1 q (l : Int) (t : Int) (X.map toR) (A.map toR) (m : Int) (gm : Int) (n : Int) (hi (of 7 (v % 2 ^ n))) (lo (of 7 (v % 2 ^ n)))) R := by
  have rb : zr.f (l : Int) = some (b : Int) := by rw [← eb]; exact z1M l hl7
  have rt : zr.f (t : Int) = some (N : Int) := by rw [← eN]; exact z1M t ht7
  have hf : ∀ j, val (X.getD (g * m + j) 0) < 2 ^ b := fun j => by rw [← eb]; exact z2E hA _
  have hlt2 := z49 (f := fun j => val (X.getD (g * m + j) 0)) (b := b) m (fun j _ => hf j)
  have hbit := z4G (f := fun j => val (X.getD (g * m + j) 0)) hb m (fun j _ => hf j)
  rw [hbm, ← ev] at hlt2 hbit
  have hv128 : v < 2 ^ 128 := Nat.lt_of_lt_of_le hlt2 (Nat.pow_le_pow_right (by decide) hN)
  have hlast : of 7 (v % 2 ^ N) = of 7 v := by rw [Nat.mod_eq_of_lt hlt2]
  have hstep : ∀ n, n < 128 → of 7 (v % 2 ^ (n + 1)) = of 7 (v % 2 ^ n) + (if v.testBit n then bitE n else 0) := fun n hn => z44 v n hv128 hn
  rw [← egm] at hbit
  clear hlt2 hv128 hf ev eb eN
  intro d
  induction d with
  | zero =>
    intro n hn
    have : n = N := by omega
    subst this
    rw [hlast]
    refine Ev.step (fun q => by rw [zb.l1]) (Ev.bnd0 rt ?_)
    refine Ev.neg (by omega) ?_
    refine Ev.pos (by rw [List.length_map]; omega) ?_
    rw [List.map_append] at h
    exact h
  | succ d ih =>
    intro n hn
    have hn' : n < N := by omega
    have hdiv : n / b < m := by rw [Nat.div_lt_iff_lt_mul hb, Nat.mul_comm, hbm]; exact hn'
    have hmod : n % b < b := Nat.mod_lt n hb
    have hih := ih (n + 1) (by omega)
    rw [hstep n (by omega), hbit n hn'] at hih
    obtain ⟨q, hq⟩ : ∃ q, q = n / b := ⟨_, rfl⟩
    obtain ⟨p, hp⟩ : ∃ p, p = n % b := ⟨_, rfl⟩
    rw [← hq] at hdiv hih
    rw [← hp] at hmod hih
    have c1 : (n : Int) < (N : Int) := by omega
    have c2 : ¬ ((b : Int) = 0) := by omega
    have c3 : ((gm + q : Nat) : Int) < (((X.map toR).length : Nat) : Int) := by rw [List.length_map]; omega
    have c4 : p < 128 := by omega
    have c5 : n < 128 := by omega
    obtain ⟨e1, e2, e4⟩ : wrap64 (q : Int) = (q : Int) ∧ wrap64 ((gm : Int) + (q : Int)) = ((gm + q : Nat) : Int) ∧ wrap64 ((n : Int) + 1) = ((n + 1 : Nat) : Int) := ⟨z1J (by omega) (by omega), z3o (by omega) (by omega), z1v hn' (show N ≤ 4611686018427387904 by omega)⟩
    have e0 : Int.tdiv (n : Int) (b : Int) = (q : Int) := by rw [hq]; exact (Int.ofNat_tdiv _ _).symm
    have e3 : Int.tmod (n : Int) (b : Int) = (p : Int) := by rw [hp]; exact (Int.ofNat_tmod _ _).symm
    refine Ev.step (fun q => by rw [zb.l1]) (Ev.bnd0 rt ?_)
    refine Ev.pos c1 (Ev.bnd0 rb ?_)
    refine Ev.neg c2 ?_
    simp only [e0, e1, e2, rdR, z4S, z4T, e4]
    refine Ev.pos (Int.natCast_nonneg _) ?_
    refine Ev.pos c3 (Ev.bnd0 rb ?_)
    refine Ev.neg c2 ?_
    simp only [e3]
    refine Ev.bnd (z5f _ p c4) ?_
    cases c : (val (X.getD (gm + q) 0)).testBit p with
    | true =>
      rw [c, if_pos rfl] at hih
      exact Ev.pos rfl (Ev.bnd (z3i n c5) (Ev.bnd0 (z3h _ _) hih))
    | false =>
      rw [c, if_neg (by decide), add_zero] at hih
      exact Ev.neg (by decide) hih
theorem z4g {l t : Nat} (hlt : l ≤ t) (ht7 : t ≤ 7) (X : List E) (hX : X.length ≤ 1000000) (hA : AllS (l : Int) X) (G : Nat) (hG : X.length = G * 2 ^ (t - l)) :
    ∀ (d g : Nat), g + d = G → Ev (fun q => zb.l0 q (l : Int) (t : Int) (X.map toR) ((full X (2 ^ l) (2 ^ (t - l)) g).map toR) ((2 ^ (t - l) : Nat) : Int) ((g * 2 ^ (t - l) : Nat) : Int)) ((full X (2 ^ l) (2 ^ (t - l)) G).map toR, 0) := by
  obtain ⟨hbm, ht, hb, hm⟩ := z2r hlt ht7
  have hm128 : 2 ^ (t - l) ≤ 128 := by
    have : 1 * 2 ^ (t - l) ≤ 2 ^ l * 2 ^ (t - l) := Nat.mul_le_mul_right _ hb
    omega
  intro d
  induction d with
  | zero =>
    intro g hg
    have : g = G := by omega
    subst this
    exact Ev.step (fun q => by rw [zb.l0]) (Ev.neg (by rw [List.length_map]; omega) (Ev.ret _))
  | succ d ih =>
    intro g hg
    have hgm : g * 2 ^ (t - l) + 2 ^ (t - l) ≤ X.length := by
      have : (g + 1) * 2 ^ (t - l) ≤ G * 2 ^ (t - l) := Nat.mul_le_mul_right _ (by omega)
      rw [Nat.succ_mul] at this; omega
    have hgl : g ≤ X.length := by
      have : g * 1 ≤ g * 2 ^ (t - l) := Nat.mul_le_mul_left _ hm
      omega
    refine Ev.step (fun q => by rw [zb.l0]) (Ev.pos (by rw [List.length_map]; omega) ?_)
    have hih := ih (g + 1) (by omega)
    rw [z47, Nat.succ_mul] at hih
    have := z4h (by omega) ht7 rfl rfl hbm hb (by have := Nat.mul_le_mul_left (2 ^ l) hm; omega) ht X hX hA (full X (2 ^ l) (2 ^ (t - l)) g) (by rw [z1x]; omega) g _ rfl hgm _ rfl _ (by
      rw [z3o (by omega) (by omega)]; exact hih) (2 ^ t) 0 (Nat.zero_add _)
    rw [Nat.pow_zero, Nat.mod_one, z1W, z2o, z2q] at this
    exact this
theorem refGather_ev (F T : Int) (X : List E) (hX : X.length ≤ 1000000) : Ev (fun q => zb.f q F T (X.map toR)) ((gathO F T X).map toR, gathErr F T X) := by
  have hj : ∀ c : Bool, c = decide (¬ LvTwo F T) → Ev (fun q => zb.j0 q F T (X.map toR) [] c) ((gathO F T X).map toR, gathErr F T X) := by
    intro c hc
    refine Ev.step (fun q => by rw [zb.j0]) ?_
    by_cases g : LvTwo F T
    · rw [decide_eq_false (Decidable.not_not.2 g)] at hc
      have hc' := g
      obtain ⟨⟨hF0, hF7⟩, ⟨hT0, hT7⟩, hle⟩ := hc'
      obtain ⟨l, rfl⟩ := Int.eq_ofNat_of_zero_le hF0
      obtain ⟨t, rfl⟩ := Int.eq_ofNat_of_zero_le hT0
      obtain ⟨hbm, ht, hb, hm⟩ := z2r (l := l) (t := t) (by omega) (by omega)
      have hE : gathErr (l : Int) (t : Int) X = if X.length % 2 ^ (t - l) = 0 then (if AllS (l : Int) X then 0 else 5) else 6 := by unfold gathErr; rw [if_pos g, Int.toNat_natCast, Int.toNat_natCast]
      have e1 : wrap64 (Int.tdiv ((2 ^ t : Nat) : Int) ((2 ^ l : Nat) : Int)) = ((2 ^ (t - l) : Nat) : Int) := by
        rw [← Int.ofNat_tdiv, ← hbm, Nat.mul_div_cancel_left _ hb, z1J (by omega) ?_]
        have : 1 * 2 ^ (t - l) ≤ 2 ^ l * 2 ^ (t - l) := Nat.mul_le_mul_right _ hb
        omega
      refine Ev.neg (by rw [hc]; decide) (Ev.bnd0 (z1M t (by omega)) (Ev.bnd0 (z1M l (by omega)) (Ev.neg (by omega) ?_)))
      simp only [e1, List.length_map]
      refine Ev.neg (by omega) ?_
      by_cases c2 : X.length % 2 ^ (t - l) = 0
      · rw [if_pos c2] at hE
        refine Ev.pos (by rw [← Int.natCast_emod, c2]; rfl) (Ev.bnd (All_ev (l : Int) X hX) ?_)
        by_cases c3 : AllS (l : Int) X
        · rw [if_pos c3] at hE
          have hO : gathO (l : Int) (t : Int) X = gathS (l : Int) (t : Int) X := if_pos hE
          rw [hO, hE]
          refine Ev.pos (decide_eq_true c3) ?_
          have hG : X.length = X.length / 2 ^ (t - l) * 2 ^ (t - l) := by
            have := Nat.div_add_mod X.length (2 ^ (t - l))
            rw [c2, Nat.add_zero, Nat.mul_comm] at this; exact this.symm
          have := z4g (by omega) (by omega) X hX c3 _ hG _ 0 (Nat.zero_add _)
          rw [Nat.zero_mul] at this
          unfold gathS
          rw [Int.toNat_natCast, Int.toNat_natCast]
          exact this
        · rw [if_neg c3] at hE
          have hO : gathO (l : Int) (t : Int) X = [] := if_neg (by rw [hE]; decide)
          rw [hO, hE]
          exact Ev.neg (by simpa using c3) (Ev.ret _)
      · rw [if_neg c2] at hE
        have hO : gathO (l : Int) (t : Int) X = [] := if_neg (by rw [hE]; decide)
        rw [hO, hE]
        refine Ev.neg ?_ (Ev.ret _)
        rw [← Int.natCast_emod]; intro h; exact c2 (by omega)
    · rw [decide_eq_true g] at hc
      have hE : gathErr F T X = 1 := if_neg g
      have hO : gathO F T X = [] := if_neg (by rw [hE]; decide)
      rw [hO, hE]
      exact Ev.pos hc (Ev.ret _)
  unfold zb.f
  have hiff : LvTwo F T ↔ (0 ≤ F ∧ T ≤ 7 ∧ F ≤ T) := by unfold LvTwo LvS; omega
  by_cases h0 : F < 0
  · exact Ev.pos h0 (hj true (by symm; rw [decide_eq_true_eq, hiff]; omega))
  refine Ev.neg h0 ?_
  by_cases h7 : T > 7
  · exact Ev.pos h7 (hj true (by symm; rw [decide_eq_true_eq, hiff]; omega))
  refine Ev.neg h7 (hj _ ?_)
  rw [decide_eq_decide, hiff]; omega
theorem z3Y {l t b N : Nat} (hl7 : l ≤ 7) (ht7 : t ≤ 7) (eb : 2 ^ l = b) (hN : N ≤ 128) (hb : 0 < b) (X : List E) (hX : X.length ≤ 1000000) (A : List E) (hAl : A.length ≤ 1000000) (i k kb : Nat) (ek : kb = b * k) (hi' : i < X.length) (hk : kb + b ≤ N) (R : List S61 × Int)
    (h : Ev (fun q => z8.l1 q (l : Int) (t : Int) (X.map toR) ((A ++ [bitsAt (X.getD i 0) b k]).map toR) (i : Int) (wrap64 ((kb : Int) + (b : Int)))) R) :
    ∀ (d n : Nat), n + d = b → Ev (fun q => z8.l2 q (l : Int) (t : Int) (X.map toR) (A.map toR) (i : Int) (kb : Int) (n : Int)
      (hi (of 7 (val (X.getD i 0) / 2 ^ (b * k) % 2 ^ b % 2 ^ n))) (lo (of 7 (val (X.getD i 0) / 2 ^ (b * k) % 2 ^ b % 2 ^ n)))) R := by
  have rb : zr.f (l : Int) = some (b : Int) := by rw [← eb]; exact z1M l hl7
  have hbit : ∀ n, n < b → (val (X.getD i 0) / 2 ^ (b * k) % 2 ^ b).testBit n = (val (X.getD i 0)).testBit (kb + n) := by
    intro n hn
    rw [Nat.testBit_mod_two_pow, Nat.testBit_div_two_pow, Nat.add_comm, ek]; simp [hn]
  have hv : val (X.getD i 0) / 2 ^ (b * k) % 2 ^ b < 2 ^ b := Nat.mod_lt _ (Nat.two_pow_pos _)
  unfold bitsAt at h
  generalize val (X.getD i 0) / 2 ^ (b * k) % 2 ^ b = v at *
  have hv128 : v < 2 ^ 128 := Nat.lt_of_lt_of_le hv (Nat.pow_le_pow_right (by decide) (by omega))
  have hlast : of 7 (v % 2 ^ b) = of 7 v := by rw [Nat.mod_eq_of_lt hv]
  have hstep : ∀ n, n < 128 → of 7 (v % 2 ^ (n + 1)) = of 7 (v % 2 ^ n) + (if v.testBit n then bitE n else 0) := fun n hn => z44 v n hv128 hn
  clear hv hv128 eb ek
  intro d
  induction d with
  | zero =>
    intro n hn
    have : n = b := by omega
    subst this
    rw [hlast]
    refine Ev.step (fun q => by rw [z8.l2]) (Ev.bnd0 rb ?_)
    refine Ev.neg (by omega) ?_
    refine Ev.pos (by rw [List.length_map]; omega) (Ev.bnd0 rb ?_)
    rw [List.map_append] at h
    exact h
  | succ d ih =>
    intro n hn
    have hn' : n < b := by omega
    have hih := ih (n + 1) (by omega)
    have c5 : n < 128 := by omega
    rw [hstep n c5, hbit n hn'] at hih
    have c1 : (n : Int) < (b : Int) := by omega
    have c2 : (i : Int) < (((X.map toR).length : Nat) : Int) := by rw [List.length_map]; omega
    have c4 : kb + n < 128 := by omega
    obtain ⟨e1, e4⟩ : wrap64 ((kb : Int) + (n : Int)) = ((kb + n : Nat) : Int) ∧ wrap64 ((n : Int) + 1) = ((n + 1 : Nat) : Int) := ⟨z3o (by omega) (by omega), z1v hn' (show b ≤ 4611686018427387904 by omega)⟩
    refine Ev.step (fun q => by rw [z8.l2]) (Ev.bnd0 rb ?_)
    refine Ev.pos c1 ?_
    refine Ev.pos (Int.natCast_nonneg _) ?_
    refine Ev.pos c2 ?_
    simp only [e1, rdR, z4S, z4T, e4]
    refine Ev.bnd (z5f _ (kb + n) c4) ?_
    cases c : (val (X.getD i 0)).testBit (kb + n) with
    | true =>
      rw [c, if_pos rfl] at hih
      exact Ev.pos rfl (Ev.bnd (z3i n c5) (Ev.bnd0 (z3h _ _) hih))
    | false =>
      rw [c, if_neg (by decide), add_zero] at hih
      exact Ev.neg (by decide) hih
theorem z3X {l t : Nat} (hlt : l ≤ t) (ht7 : t ≤ 7) (X : List E) (hX : X.length ≤ 1000000) (A : List E) (hAl : A.length ≤ 900000) (i : Nat) (hi' : i < X.length) (R : List S61 × Int)
    (h : Ev (fun q => z8.l0 q (l : Int) (t : Int) (X.map toR) ((A ++ scat (2 ^ l) (2 ^ (t - l)) (X.getD i 0)).map toR) (wrap64 ((i : Int) + 1))) R) :
    ∀ (d k : Nat), k + d = 2 ^ (t - l) → Ev (fun q => z8.l1 q (l : Int) (t : Int) (X.map toR) ((A ++ (List.range k).map (bitsAt (X.getD i 0) (2 ^ l))).map toR) (i : Int) ((2 ^ l * k : Nat) : Int)) R := by
  obtain ⟨hbm, ht, hb, hm⟩ := z2r hlt ht7
  have hm128 : 2 ^ (t - l) ≤ 128 := by
    have : 1 * 2 ^ (t - l) ≤ 2 ^ l * 2 ^ (t - l) := Nat.mul_le_mul_right _ hb
    omega
  intro d
  induction d with
  | zero =>
    intro k hk
    have : k = 2 ^ (t - l) := by omega
    subst this
    refine Ev.step (fun q => by rw [z8.l1]) (Ev.bnd0 (z1M t ht7) ?_)
    refine Ev.neg (by omega) ?_
    exact h
  | succ d ih =>
    intro k hk
    have hk' : k < 2 ^ (t - l) := by omega
    have hkb : 2 ^ l * k + 2 ^ l ≤ 2 ^ t := by
      have : 2 ^ l * (k + 1) ≤ 2 ^ l * 2 ^ (t - l) := Nat.mul_le_mul_left _ hk'
      rw [Nat.mul_succ] at this; omega
    have ha : A ++ (List.range (k + 1)).map (bitsAt (X.getD i 0) (2 ^ l)) = (A ++ (List.range k).map (bitsAt (X.getD i 0) (2 ^ l))) ++ [bitsAt (X.getD i 0) (2 ^ l) k] := by
      rw [List.range_succ, List.map_append, ← List.append_assoc]; rfl
    have hih := ih (k + 1) (by omega)
    rw [ha, Nat.mul_succ] at hih
    refine Ev.step (fun q => by rw [z8.l1]) (Ev.bnd0 (z1M t ht7) ?_)
    refine Ev.pos (by omega) ?_
    have := z3Y (b := 2 ^ l) (N := 2 ^ t) (by omega) ht7 rfl ht hb X hX (A ++ (List.range k).map (bitsAt (X.getD i 0) (2 ^ l))) (by rw [List.length_append, List.length_map, List.length_range]; omega) i k _ rfl hi' hkb R (by
      rw [z3o (by omega) (by omega)]; exact hih) (2 ^ l) 0 (Nat.zero_add _)
    rw [Nat.pow_zero, Nat.mod_one, z1W, z2o, z2q] at this
    exact this
theorem z3W {l t : Nat} (hlt : l ≤ t) (ht7 : t ≤ 7) (X : List E) (hX : X.length ≤ 1000) : ∀ (d i : Nat), i + d = X.length → Ev (fun q => z8.l0 q (l : Int) (t : Int) (X.map toR) ((scats (2 ^ l) (2 ^ (t - l)) (X.take i)).map toR) (i : Int)) ((scats (2 ^ l) (2 ^ (t - l)) X).map toR, 0) := by
  obtain ⟨hbm, ht, hb, hm⟩ := z2r hlt ht7
  have hm128 : 2 ^ (t - l) ≤ 128 := by
    have : 1 * 2 ^ (t - l) ≤ 2 ^ l * 2 ^ (t - l) := Nat.mul_le_mul_right _ hb
    omega
  intro d
  induction d with
  | zero =>
    intro i hi
    refine Ev.step (fun q => by rw [z8.l0]) (Ev.neg (by rw [List.length_map]; omega) (Ev.ret' ?_))
    rw [List.take_of_length_le (by omega)]
  | succ d ih =>
    intro i hi
    have hi' : i < X.length := by omega
    refine Ev.step (fun q => by rw [z8.l0]) (Ev.pos (by rw [List.length_map]; omega) ?_)
    have hAl : (scats (2 ^ l) (2 ^ (t - l)) (X.take i)).length ≤ 900000 := by
      rw [z2t, List.length_take]
      have : min i X.length * 2 ^ (t - l) ≤ 1000 * 128 := Nat.mul_le_mul (by omega) hm128
      omega
    have := z3X hlt ht7 X (by omega) (scats (2 ^ l) (2 ^ (t - l)) (X.take i)) hAl i hi' ((scats (2 ^ l) (2 ^ (t - l)) X).map toR, 0) ?_ (2 ^ (t - l)) 0 (Nat.zero_add _)
    · rw [List.range_zero, List.map_nil, List.append_nil] at this
      exact this
    · rw [z1v hi' (show X.length ≤ 4611686018427387904 by omega)]
      have hih := ih (i + 1) (by omega)
      have e : scats (2 ^ l) (2 ^ (t - l)) (X.take (i + 1)) = scats (2 ^ l) (2 ^ (t - l)) (X.take i) ++ scat (2 ^ l) (2 ^ (t - l)) (X.getD i 0) := by
        have hx : X.getD i 0 = X[i] := by rw [List.getD_eq_getElem?_getD, List.getElem?_eq_getElem hi']; rfl
        unfold scats
        rw [List.take_succ_eq_append_getElem hi', List.flatMap_append, hx]; simp
      rw [e] at hih
      exact hih
theorem refScatter_ev (F T : Int) (X : List E) (hX : X.length ≤ 1000) : Ev (fun q => z8.f q F T (X.map toR)) ((scatO F T X).map toR, scatErr F T X) := by
  have hj : ∀ c : Bool, c = decide (¬ LvTwo F T) → Ev (fun q => z8.j0 q F T (X.map toR) [] c) ((scatO F T X).map toR, scatErr F T X) := by
    intro c hc
    refine Ev.step (fun q => by rw [z8.j0]) ?_
    by_cases g : LvTwo F T
    · rw [decide_eq_false (Decidable.not_not.2 g)] at hc
      have hc' := g
      obtain ⟨⟨hF0, hF7⟩, ⟨hT0, hT7⟩, hle⟩ := hc'
      obtain ⟨l, rfl⟩ := Int.eq_ofNat_of_zero_le hF0
      obtain ⟨t, rfl⟩ := Int.eq_ofNat_of_zero_le hT0
      have hE : scatErr (l : Int) (t : Int) X = if AllS (t : Int) X then 0 else 5 := if_pos g
      refine Ev.neg (by rw [hc]; decide) (Ev.bnd (All_ev (t : Int) X (by omega)) ?_)
      by_cases c3 : AllS (t : Int) X
      · rw [if_pos c3] at hE
        have hO : scatO (l : Int) (t : Int) X = scats (2 ^ l) (2 ^ (t - l)) X := by
          unfold scatO; rw [if_pos hE, Int.toNat_natCast, Int.toNat_natCast]
        rw [hO, hE]
        exact Ev.pos (decide_eq_true c3) (z3W (by omega) (by omega) X hX X.length 0 (by omega))
      · rw [if_neg c3] at hE
        have hO : scatO (l : Int) (t : Int) X = [] := if_neg (by rw [hE]; decide)
        rw [hO, hE]
        exact Ev.neg (by simpa using c3) (Ev.ret _)
    · rw [decide_eq_true g] at hc
      have hE : scatErr F T X = 1 := if_neg g
      have hO : scatO F T X = [] := if_neg (by rw [hE]; decide)
      rw [hO, hE]
      exact Ev.pos hc (Ev.ret _)
  unfold z8.f
  have hiff : LvTwo F T ↔ (0 ≤ F ∧ T ≤ 7 ∧ F ≤ T) := by unfold LvTwo LvS; omega
  by_cases h0 : F < 0
  · exact Ev.pos h0 (hj true (by symm; rw [decide_eq_true_eq, hiff]; omega))
  refine Ev.neg h0 ?_
  by_cases h7 : T > 7
  · exact Ev.pos h7 (hj true (by symm; rw [decide_eq_true_eq, hiff]; omega))
  refine Ev.neg h7 (hj _ ?_)
  rw [decide_eq_decide, hiff]; omega
/-- There and back. -/
theorem z2s {α : Type} (f : Nat → α) (m : Nat) : ∀ G, (List.range G).flatMap (fun g => (List.range m).map fun k => f (g * m + k)) = (List.range (G * m)).map f
  | 0 => by simp
  | G + 1 => by
    rw [List.range_succ, List.flatMap_append, z2s f m G, Nat.succ_mul, List.range_add, List.map_append, List.map_map]
    simp [List.flatMap_cons, Function.comp_def]
theorem z2P {α : Type} (X : List α) (d : α) : (List.range X.length).map (fun i => X.getD i d) = X := by
  apply List.ext_getElem
  · simp
  · intro i h1 h2; simp [List.getD_eq_getElem?_getD, h2]
theorem z2a {α : Type} (f : Nat → α) (d : α) {n i : Nat} (h : i < n) : ((List.range n).map f).getD i d = f i := by
  rw [List.getD_eq_getElem?_getD]; simp [h]
theorem scats_full {l t : Nat} (hlt : l ≤ t) (ht7 : t ≤ 7) (X : List E) (hA : AllS (l : Int) X) (G : Nat) (hG : X.length = G * 2 ^ (t - l)) : scats (2 ^ l) (2 ^ (t - l)) (full X (2 ^ l) (2 ^ (t - l)) G) = X := by
  obtain ⟨hbm, ht, hb, hm⟩ := z2r hlt ht7
  conv => rhs; rw [← z2P X 0, hG, ← z2s]
  unfold scats full
  rw [List.flatMap_map]
  congr 1
  funext g
  unfold scat
  apply List.map_congr_left
  intro k hk
  have hk' : k < 2 ^ (t - l) := List.mem_range.1 hk
  have hf : ∀ j, val (X.getD (g * 2 ^ (t - l) + j) 0) < 2 ^ 2 ^ l := fun j => z2E hA _
  have hlt2 := z49 (f := fun j => val (X.getD (g * 2 ^ (t - l) + j) 0)) (b := 2 ^ l) (2 ^ (t - l)) (fun j _ => hf j)
  rw [hbm] at hlt2
  unfold bitsAt part
  rw [z2i (Nat.lt_of_lt_of_le hlt2 (Nat.pow_le_pow_right (by decide) ht)), gv_get hb (fun j _ => hf j) hk', z1w]
theorem z4R (b m : Nat) (hm : 0 < m) (X : List E) : scats b m X = (List.range (X.length * m)).map fun i => bitsAt (X.getD (i / m) 0) b (i % m) := by
  have h1 : scats b m X = scats b m ((List.range X.length).map fun i => X.getD i 0) := congrArg (scats b m) (z2P X 0).symm
  rw [h1, ← z2s (fun i => bitsAt (X.getD (i / m) 0) b (i % m)) m X.length]
  unfold scats
  rw [List.flatMap_map]
  apply congrArg (fun f => (List.range X.length).flatMap f)
  funext g
  unfold scat
  apply List.map_congr_left
  intro k hk
  have hk' : k < m := List.mem_range.1 hk
  rw [Nat.mul_comm g m, Nat.mul_add_div hm, Nat.div_eq_of_lt hk', Nat.add_zero, Nat.mul_add_mod, Nat.mod_eq_of_lt hk']
theorem full_scats {l t : Nat} (hlt : l ≤ t) (ht7 : t ≤ 7) (X : List E) (hA : AllS (t : Int) X) : full (scats (2 ^ l) (2 ^ (t - l)) X) (2 ^ l) (2 ^ (t - l)) X.length = X := by
  obtain ⟨hbm, ht, hb, hm⟩ := z2r hlt ht7
  conv => rhs; rw [← z2P X 0]
  unfold full
  apply List.map_congr_left
  intro g hg
  have hg' : g < X.length := List.mem_range.1 hg
  have hv := z2E hA g
  unfold part
  have e : gv (fun j => val ((scats (2 ^ l) (2 ^ (t - l)) X).getD (g * 2 ^ (t - l) + j) 0)) (2 ^ l) (2 ^ (t - l)) = gv (fun k => val (X.getD g 0) / 2 ^ (2 ^ l * k) % 2 ^ 2 ^ l) (2 ^ l) (2 ^ (t - l)) := by
    apply z4H
    intro k hk
    have hin : g * 2 ^ (t - l) + k < X.length * 2 ^ (t - l) := by
      have : (g + 1) * 2 ^ (t - l) ≤ X.length * 2 ^ (t - l) := Nat.mul_le_mul_right _ hg'
      rw [Nat.succ_mul] at this; omega
    rw [z4R _ _ hm, z2a _ _ hin, Nat.mul_comm g (2 ^ (t - l)), Nat.mul_add_div hm, Nat.div_eq_of_lt hk, Nat.add_zero, Nat.mul_add_mod, Nat.mod_eq_of_lt hk]
    unfold bitsAt
    exact z2i (Nat.lt_of_lt_of_le (Nat.mod_lt _ (Nat.two_pow_pos _)) (Nat.pow_le_pow_right (by decide) (by have := Nat.pow_le_pow_right (n := 2) (by decide) hlt; omega)))
  rw [e, z4I _ _ hb, hbm, Nat.mod_eq_of_lt hv, z1w]
theorem z39 {l : Nat} (hl : l ≤ 7) {X : List E} (h : ∀ i, i < X.length → val (X.getD i 0) < 2 ^ 2 ^ l) : AllS (l : Int) X := by
  intro x hx
  obtain ⟨i, hi, rfl⟩ := List.mem_iff_getElem.1 hx
  have := h i hi
  rw [List.getD_eq_getElem?_getD, List.getElem?_eq_getElem hi] at this
  exact ⟨by omega, by omega, by rw [Int.toNat_natCast]; exact this⟩
theorem all_full {l t : Nat} (hlt : l ≤ t) (ht7 : t ≤ 7) (X : List E) (hA : AllS (l : Int) X) (G : Nat) : AllS (t : Int) (full X (2 ^ l) (2 ^ (t - l)) G) := by
  obtain ⟨hbm, ht, hb, hm⟩ := z2r hlt ht7
  apply z39 ht7
  intro g hg
  rw [z1x] at hg
  unfold full
  rw [z2a _ _ hg]
  have hf : ∀ j, val (X.getD (g * 2 ^ (t - l) + j) 0) < 2 ^ 2 ^ l := fun j => z2E hA _
  have hlt2 := z49 (f := fun j => val (X.getD (g * 2 ^ (t - l) + j) 0)) (b := 2 ^ l) (2 ^ (t - l)) (fun j _ => hf j)
  rw [hbm] at hlt2
  unfold part
  rw [z2i (Nat.lt_of_lt_of_le hlt2 (Nat.pow_le_pow_right (by decide) ht))]
  exact hlt2
theorem all_scats {l t : Nat} (hlt : l ≤ t) (ht7 : t ≤ 7) (X : List E) : AllS (l : Int) (scats (2 ^ l) (2 ^ (t - l)) X) := by
  obtain ⟨hbm, ht, hb, hm⟩ := z2r hlt ht7
  apply z39 (by omega)
  intro i hi
  rw [z2t] at hi
  rw [z4R _ _ hm, z2a _ _ hi]
  unfold bitsAt
  rw [z2i (Nat.lt_of_lt_of_le (Nat.mod_lt _ (Nat.two_pow_pos _)) (Nat.pow_le_pow_right (by decide) (by have := Nat.pow_le_pow_right (n := 2) (by decide) hlt; omega)))]
  exact Nat.mod_lt _ (Nat.two_pow_pos _)
end Go.Proofs.Ytngcaphdkgihmaa.Sp
/- The bits of an element as the program tells them. Own text. -/
namespace Go.Proofs.Ytngcaphdkgihmaa.Sp
open Go.RowKit Go.Proofs.YtngcaphdkgihmaaW.PrintWords Go.Proofs.YtngcaphdkgihmaaW.PrintMore Go.Proofs.Ytngcaphdkgihmaa.P Go.Proofs.Ytngcaphdkgihmaa.Ar Go.Proofs.Ytngcaphdkgihmaa.Tw
set_option linter.unusedVariables false
theorem z4u (n : Nat) (hn : n < 128) : Ev (fun k => z11.f k (n : Int)) (hi (bitE n), lo (bitE n)) := by
  obtain ⟨h1, h2⟩ := z4r hn
  unfold z11.f
  refine Ev.pos (by omega) ?_
  by_cases c : n < 64
  · rw [if_pos c] at h1 h2
    rw [h1, h2, decide_eq_true (show (n : Int) < 64 by omega)]
    refine Ev.step (fun k => by rw [z11.j0]) (Ev.pos rfl (Ev.pos (Int.natCast_nonneg _) (Ev.ret' ?_)))
    rw [z26 n (by omega)]
  · rw [if_neg c] at h1 h2
    rw [h1, h2, decide_eq_false (show ¬ (n : Int) < 64 by omega)]
    have e : wrap64 ((n : Int) - 64) = ((n - 64 : Nat) : Int) := by rw [z1J (by omega) (by omega)]; omega
    refine Ev.step (fun k => by rw [z11.j0]) (Ev.neg (by decide) (Ev.pos (by omega) (Ev.pos (by omega) ?_)))
    rw [e]
    exact Ev.pos (Int.natCast_nonneg _) (Ev.ret' (by rw [z26 (n - 64) (by omega)]))
def bitsL (x : E) (n : Nat) : List Bool := (List.range n).map fun i => (val x).testBit i
theorem z4j (x : E) (N : Nat) (hN : N ≤ 128) : ∀ (d n : Nat), n + d = N → Ev (fun k => zG.l0 k (bitsL x n) (N : Int) (n : Int) (hi x) (lo x)) (bitsL x N) := by
  intro d
  induction d with
  | zero =>
    intro n hn
    have : n = N := by omega
    subst this
    exact Ev.step (fun k => by rw [zG.l0]) (Ev.neg (by omega) (Ev.ret _))
  | succ d ih =>
    intro n hn
    have hn' : n < N := by omega
    have hih := ih (n + 1) (by omega)
    have hs : bitsL x (n + 1) = bitsL x n ++ [(val x).testBit n] := by unfold bitsL; rw [List.range_succ, List.map_append]; rfl
    have hl : (bitsL x n).length < 140737488355328 := by unfold bitsL; rw [List.length_map, List.length_range]; omega
    rw [hs] at hih
    refine Ev.step (fun k => by rw [zG.l0]) (Ev.pos (by omega) (Ev.bnd (z4u n (by omega)) ?_))
    refine Ev.pos hl ?_
    simp only [hasBits x n (show n < 128 by omega), z1v hn' (show N ≤ 4611686018427387904 by omega)]
    exact hih
theorem z4i {l : Nat} (hl : l ≤ 7) (x : E) (hx : OfS (l : Int) x) : Ev (fun k => zG.f k (l : Int) (hi x) (lo x)) (bitsL x (2 ^ l)) := by
  unfold zG.f
  refine Ev.bnd (z54 (l : Int) x) (Ev.pos (decide_eq_true hx) (Ev.pos (Int.natCast_nonneg _) ?_))
  rw [z3k l (by omega)]
  exact z4j x (2 ^ l) (Nat.pow_le_pow_right (n := 2) (by decide) hl) (2 ^ l) 0 (Nat.zero_add _)
end Go.Proofs.Ytngcaphdkgihmaa.Sp
namespace Go.Proofs.Ytngcaphdkgihmaa.Sp
open Go.RowKit Go.Proofs.YtngcaphdkgihmaaW.PrintWords Go.Proofs.YtngcaphdkgihmaaW.PrintMore Go.Proofs.Ytngcaphdkgihmaa.P Go.Proofs.Ytngcaphdkgihmaa.Ar Go.Proofs.Ytngcaphdkgihmaa.Tw
set_option linter.unusedVariables false
theorem z2e : Ev (fun k => zj.f k) true := Ev.of zj.mono (k := 60) (by decide +kernel)
/-- Bits as elements. -/
def bitX (b : Bool) : E := if b then 1 else 0
theorem z4V (b : Bool) : val (bitX b) = if b then 1 else 0 := by
  unfold bitX; cases b
  · exact z1o 7
  · exact z2x 7
theorem z3N (B : List Bool) : AllS 0 (B.map bitX) := by
  intro x hx
  obtain ⟨b, _, rfl⟩ := List.mem_map.1 hx
  refine ⟨by decide, by decide, ?_⟩
  unfold InL
  rw [z4V]
  cases b <;> decide
theorem z4l (L : Int) (B : List Bool) (hB : B.length ≤ 1000000) : ∀ (d i : Nat), i + d = B.length → Ev (fun k => zE.l0 k L (((B.take i).map bitX).map toS) B ((B.length : Nat) : Int) (i : Int)) ((gathO 0 L (B.map bitX)).map toS, gathErr 0 L (B.map bitX)) := by
  intro d
  induction d with
  | zero =>
    intro i hi
    refine Ev.step (fun k => by rw [zE.l0]) (Ev.neg (by omega) ?_)
    rw [List.take_of_length_le (by omega)]
    exact Ev.bnd (z5d 0 L (B.map bitX) (by rw [List.length_map]; exact hB)) (Ev.ret _)
  | succ d ih =>
    intro i hi
    have hi' : i < B.length := by omega
    have hih := ih (i + 1) (by omega)
    have hx : B.getD i false = B[i] := by rw [List.getD_eq_getElem?_getD, List.getElem?_eq_getElem hi']; rfl
    rw [List.take_succ_eq_append_getElem hi', ← hx, List.map_append, List.map_append] at hih
    have hl : (((B.take i).map bitX).map toS).length < 8796093022208 := by rw [List.length_map, List.length_map, List.length_take]; omega
    refine Ev.step (fun k => by rw [zE.l0]) (Ev.pos (by omega) (Ev.pos (Int.natCast_nonneg _) (Ev.pos (by omega) ?_)))
    simp only [z4s, z1v hi' (show B.length ≤ 4611686018427387904 by omega)]
    cases c : B.getD i false with
    | true =>
      rw [c] at hih
      exact Ev.pos rfl (Ev.bnd0 One_eq (Ev.pos hl hih))
    | false =>
      rw [c] at hih
      refine Ev.neg (by decide) (Ev.pos hl ?_)
      have e : [(⟨0, 0⟩ : S51)] = [bitX false].map toS := by
        show _ = [toS (bitX false)]
        have : toS (bitX false) = z51 := z4U
        rw [this]; rfl
      rw [e]
      exact hih
theorem z4k (L : Int) (B : List Bool) (hB : B.length ≤ 1000000) : Ev (fun k => zE.f k L B) ((gathO 0 L (B.map bitX)).map toS, gathErr 0 L (B.map bitX)) := by
  unfold zE.f
  exact z4l L B hB B.length 0 (by omega)
theorem part_bit (B : List Bool) (m g k : Nat) (hm : m ≤ 128) (hk : k < m) : (val (part (B.map bitX) 1 m g m)).testBit k = B.getD (g * m + k) false := by
  have hf : ∀ j, val ((B.map bitX).getD (g * m + j) 0) < 2 ^ 1 := fun j => z2E (L := 0) (z3N B) _
  have hlt := z49 (f := fun j => val ((B.map bitX).getD (g * m + j) 0)) (b := 1) m (fun j _ => hf j)
  unfold part
  rw [z2i (Nat.lt_of_lt_of_le hlt (Nat.pow_le_pow_right (by decide) (by omega))), z4G (by decide) m (fun j _ => hf j) k (by omega), Nat.div_one, Nat.mod_one]
  rw [List.getD_eq_getElem?_getD, List.getD_eq_getElem?_getD, List.getElem?_map]
  cases h : B[g * m + k]? with
  | none => show (val (0 : E)).testBit 0 = false; rw [z1o]; rfl
  | some b => show (val (bitX b)).testBit 0 = b; rw [z4V]; cases b <;> rfl
theorem z56 (x : E) {n k : Nat} (h : k < n) : rdOf false (bitsL x n) (k : Int) = (val x).testBit k := by
  rw [z4s]; exact z2a _ _ h
theorem z53 (L : Int) (B : List Bool) (hB : B.length ≤ 1000) (Y : List S51) (m g gm : Nat) (egm : gm = g * m) (hm : m ≤ 128) (hg : gm + m ≤ B.length)
    (h : Ev (fun q => z9.l0 q L B Y (m : Int) (wrap64 ((g : Int) + 1))) true) :
    ∀ (d k : Nat), k + d = m → Ev (fun q => z9.l1 q L B Y (m : Int) (g : Int) (bitsL (part (B.map bitX) 1 m g m) m) (k : Int)) true := by
  have hlen : (bitsL (part (B.map bitX) 1 m g m) m).length = m := by unfold bitsL; rw [List.length_map, List.length_range]
  have e0 : wrap64 ((g : Int) * (m : Int)) = (gm : Int) := by
    have hc : (g : Int) * (m : Int) = (gm : Int) := by rw [egm]; simp
    rw [hc]; exact z1J (by omega) (by omega)
  intro d
  induction d with
  | zero =>
    intro k hk
    refine Ev.step (fun q => by rw [z9.l1]) (Ev.neg ?_ h)
    clear e0; omega
  | succ d ih =>
    intro k hk
    have hih := ih (k + 1) (by clear e0; omega)
    have hk' : k < m := by clear e0; omega
    have hb := part_bit B m g k hm hk'
    have c1 : (k : Int) < (m : Int) := by clear e0; omega
    have c2 : (k : Int) < ((bitsL (part (B.map bitX) 1 m g m) m).length : Int) := by rw [hlen]; exact c1
    have c3 : ((gm + k : Nat) : Int) < (B.length : Int) := by clear e0; omega
    obtain ⟨e1, e2⟩ : wrap64 ((gm : Int) + (k : Int)) = ((gm + k : Nat) : Int) ∧ wrap64 ((k : Int) + 1) = ((k + 1 : Nat) : Int) := by
      clear e0
      exact ⟨z3o (by omega) (by omega), z1v hk' (by omega)⟩
    refine Ev.step (fun q => by rw [z9.l1]) (Ev.pos c1 (Ev.pos (Int.natCast_nonneg _) (Ev.pos c2 ?_)))
    simp only [e0, e1, e2]
    refine Ev.pos (Int.natCast_nonneg _) (Ev.pos c3 (Ev.neg ?_ hih))
    rw [z56 _ hk', z4s, hb, egm]
    simp
theorem z52 {l : Nat} (hl : l ≤ 7) (B : List Bool) (hB : B.length ≤ 1000) (G m : Nat) (em : m = 2 ^ l) (hm : m ≤ 128) (hm0 : 0 < m) (hG : B.length = G * m) :
    ∀ (d g : Nat), g + d = G → Ev (fun q => z9.l0 q (l : Int) B ((full (B.map bitX) 1 m G).map toS) (m : Int) (g : Int)) true := by
  have hGl : G ≤ B.length := by
    have : G * 1 ≤ G * m := Nat.mul_le_mul_left _ hm0
    omega
  intro d
  induction d with
  | zero =>
    intro g hg
    refine Ev.step (fun q => by rw [z9.l0]) (Ev.neg (by rw [List.length_map, z1x]; omega) (Ev.bnd z2e (Ev.ret _)))
  | succ d ih =>
    intro g hg
    have hg' : g < G := by omega
    have hgm : g * m + m ≤ B.length := by
      have : (g + 1) * m ≤ G * m := Nat.mul_le_mul_right _ hg'
      rw [Nat.succ_mul] at this; omega
    have hrd : (full (B.map bitX) 1 m G).getD g 0 = part (B.map bitX) 1 m g m := by unfold full; exact z2a _ _ hg'
    have hof : OfS (l : Int) (part (B.map bitX) 1 m g m) := by
      have hall := all_full (l := 0) (t := l) (Nat.zero_le _) hl (B.map bitX) (z3N B) G
      rw [Nat.pow_zero, Nat.sub_zero, ← em] at hall
      refine hall _ ?_
      unfold full
      exact List.mem_map.2 ⟨g, List.mem_range.2 hg', rfl⟩
    have hih := ih (g + 1) (by omega)
    refine Ev.step (fun q => by rw [z9.l0]) (Ev.pos (by rw [List.length_map, z1x]; omega) (Ev.pos (Int.natCast_nonneg _) ?_))
    simp only [rdS, hrd, z3D, z3E]
    refine Ev.bnd (z4i hl _ hof) ?_
    rw [← em]
    refine Ev.pos (by unfold bitsL; rw [List.length_map, List.length_range]) ?_
    refine z53 (l : Int) B hB _ m g (g * m) rfl hm hgm ?_ m 0 (Nat.zero_add _)
    rw [z1v hg' (by omega)]
    exact hih
end Go.Proofs.Ytngcaphdkgihmaa.Sp
namespace Go.Proofs.Ytngcaphdkgihmaa.Pure
open Go.RowKit Go.Proofs.YtngcaphdkgihmaaW.PrintWords Go.Proofs.YtngcaphdkgihmaaW.PrintMore Go.Proofs.Ytngcaphdkgihmaa.P Go.Proofs.Ytngcaphdkgihmaa.Ar Go.Proofs.Ytngcaphdkgihmaa.Tw Go.Proofs.Ytngcaphdkgihmaa.Sp
theorem WeaveBits : Stated.weaveBits.Pure := by
  intro L B h0 h1
  refine Ev.rounds (g := fun k => z9.f k L B) ?_
  unfold z9.f
  by_cases c1 : (B.length : Int) > 300
  · exact Ev.pos c1 (Ev.bnd z2e (Ev.ret _))
  refine Ev.neg c1 (Ev.bnd (z4k L B (by omega)) ?_)
  have hbad : ¬ LvS L → Ev (fun k => z9.j0 k L B ((gathO 0 L (B.map bitX)).map toS) (gathErr 0 L (B.map bitX)) true) true := by
    intro hL
    have hE : gathErr 0 L (B.map bitX) = 1 := if_neg (fun h : LvTwo 0 L => hL h.2.1)
    have hO : gathO 0 L (B.map bitX) = [] := if_neg (by rw [hE]; decide)
    rw [hE, hO]
    exact Ev.step (fun k => by rw [z9.j0]) (Ev.pos rfl (Ev.bnd z2e (Ev.pos rfl (Ev.pos rfl (Ev.ret _)))))
  by_cases g0 : L < 0
  · exact Ev.pos g0 (hbad (by unfold LvS; omega))
  refine Ev.neg g0 ?_
  by_cases g7 : L > 7
  · rw [decide_eq_true g7]; exact hbad (by unfold LvS; omega)
  rw [decide_eq_false g7]
  obtain ⟨l, rfl⟩ := Int.eq_ofNat_of_zero_le (show 0 ≤ L by omega)
  have hl : l ≤ 7 := by omega
  have hT : LvTwo 0 (l : Int) := ⟨⟨by decide, by decide⟩, ⟨by omega, by omega⟩, by omega⟩
  have hE : gathErr 0 (l : Int) (B.map bitX) = if B.length % 2 ^ l = 0 then 0 else 6 := by
    unfold gathErr
    rw [if_pos hT, if_pos (z3N B), List.length_map, Int.toNat_natCast]
    rfl
  refine Ev.step (fun k => by rw [z9.j0]) (Ev.neg (by decide) (Ev.bnd0 rfl ?_))
  refine Ev.pos (Int.natCast_nonneg _) (Ev.pos (by simp; omega) ?_)
  simp only [rdL l hl]
  have hm0 := Nat.two_pow_pos l
  have hm : 2 ^ l ≤ 128 := Nat.pow_le_pow_right (n := 2) (by decide) hl
  refine Ev.neg (by omega) ?_
  by_cases c2 : B.length % 2 ^ l = 0
  · rw [if_pos c2] at hE
    have hO : gathO 0 (l : Int) (B.map bitX) = full (B.map bitX) 1 (2 ^ l) (B.length / 2 ^ l) := by
      unfold gathO gathS
      rw [if_pos hE, List.length_map, Int.toNat_natCast]
      rfl
    have hG : B.length = B.length / 2 ^ l * 2 ^ l := by
      have := Nat.div_add_mod B.length (2 ^ l)
      rw [c2, Nat.add_zero, Nat.mul_comm] at this; exact this.symm
    rw [hE, hO]
    refine Ev.pos (by rw [← Int.natCast_emod, c2]; rfl) (Ev.pos rfl ?_)
    have e1 : ((((full (B.map bitX) 1 (2 ^ l) (B.length / 2 ^ l)).map toS).length : Int) != wrap64 ((B.length : Int) / ((2 ^ l : Nat) : Int))) = false := by
      have : (B.length : Int) / ((2 ^ l : Nat) : Int) = ((B.length / 2 ^ l : Nat) : Int) := (Int.natCast_ediv _ _).symm
      have hle : B.length / 2 ^ l ≤ B.length := Nat.div_le_self _ _
      have hw : ∀ G : Nat, G ≤ 1000 → wrap64 (G : Int) = (G : Int) := fun G h => z1J (by omega) (by omega)
      have hB3 : B.length ≤ 1000 := by omega
      rw [this, List.length_map, z1x, hw _ (Nat.le_trans hle hB3)]
      simp
    rw [e1]
    refine Ev.step (fun k => by rw [z9.j1]) (Ev.neg (by decide) ?_)
    exact z52 hl B (by omega) _ _ rfl hm hm0 hG _ 0 (Nat.zero_add _)
  · rw [if_neg c2] at hE
    have hO : gathO 0 (l : Int) (B.map bitX) = [] := if_neg (by rw [hE]; decide)
    rw [hE, hO]
    refine Ev.neg ?_ (Ev.bnd z2e (Ev.pos rfl (Ev.pos rfl (Ev.ret _))))
    rw [← Int.natCast_emod]; intro h; exact c2 (by omega)
end Go.Proofs.Ytngcaphdkgihmaa.Pure
-- Own text, written by wip/tools/gen.py: the row of the law WeaveBits, out of its pure statement (PureWeaveBits) and the walk.
namespace Go.Proofs.Ytngcaphdkgihmaa.weaveBits
open Go.ChangeShapes Go.WideShapes Go.ChangeAt Go.RowKit Go.Proofs.YtngcaphdkgihmaaW.PrintWords Go.Proofs.Ytngcaphdkgihmaa.P Go.Proofs.Ytngcaphdkgihmaa.Reads
set_option linter.unusedVariables false
set_option linter.unusedSimpArgs false
theorem own : ownKnob Try.prog.godebug = none := by kernel_rfl
theorem laidOut : laidOutB Try.prog = true := by kernel_rfl
theorem op24 : ReadsAs Try.prog 24 (Kd.slice 4 Kd.bool) (fun l => (∀ x_ ∈ l, True) ∧ l.length ≤ maxLen) := op_slice Try.underlying24 (by kernel_rfl) (op_bool Try.underlying4)
set_option maxRecDepth 100000 in
theorem lifted (os : Os) (started : os.Started) (H : Type) (enc : TypeId × Value → H) :
    ReturnsInHanded {} Try.checked os 6 .any (Rows.weaveBitsSpec.pre6 enc Try.prog Try.f6 Rows.weaveBitsRow.domain false) (Rows.weaveBitsSpec.post enc Try.prog Try.f6 false true false false) := by
  refine returnsInHanded_of_change_sized (C := Try.checked) own started (by kernel_rfl) Try.func6
    (ChangeSpec.witness6 (enc := enc) (C := Try.checked) false ⟨#[], #[.int .i64 0, .slice none 0 0], []⟩ 8 (by kernel_rfl) (by kernel_rfl) (by kernel_rfl) (by kernel_rfl)) ?_
  intro W base args ds gs before hval0 hW hcnd hsz0 _
  have hval : ∀ (j : Nat) t v, Try.f6.params[j]? = some t → args[j]? = some v → Value.okWide Try.prog W .any base t v := hval0
  have hW' := hW
  obtain ⟨p, q, hA0, hV, rfl, hfz, hnd⟩ := hW
  have hA : DataW.TrodAll enc Try.prog W 0 (fun _ => true) true Try.f6.params.toList args.toList ds p := hA0
  rw [Try.params6] at hA hval
  obtain ⟨v0, vs0, d0, ds0, p0, q0, hargs, rfl, rfl, h0, r0⟩ := trodAll_cons hA
  obtain ⟨v1, vs1, d1, ds1, p1, q1, rfl, rfl, rfl, h1, r1⟩ := trodAll_cons r0
  obtain ⟨rfl, rfl, rfl⟩ := trodAll_nil r1
  obtain rfl : args = #[v0, v1] := by cases args; simp_all
  obtain ⟨rfl, rfl⟩ := trodVars_none hV
  have k0 := h0
  have lt0 : ∀ x ∈ p0, x.block < W.heap.size := by obtain ⟨m, hm⟩ := k0; exact DataW.trod_lt m _ _ _ hm
  obtain ⟨x0, rfl, g0⟩ := arg_int Try.underlying3 (hval 0 3 v0 rfl rfl) h0
  have k1 := h1
  have lt1 : ∀ x ∈ p1, x.block < W.heap.size := by obtain ⟨m, hm⟩ := k1; exact DataW.trod_lt m _ _ _ hm
  obtain ⟨x1, A1, c1, rfl, hc1, hr1, g1⟩ := z5m op24 Try.underlying24 (hval 1 24 v1 rfl rfl) h1
  clear hA0 hval0 hsz0
  obtain ⟨k, hpure⟩ := Pure.WeaveBits x0 x1 g0 g1
  refine (z9.calls k x0 _ _ x1 true W hr1 hc1 hpure).mono fun e W' hh => ?_
  obtain ⟨rfl, bel0⟩ := hh
  have bel : Below W.heap.size W W' := bel0
  exact ⟨_, rfl, _, _, _, [], _, [], hW', trodAll_mk1 (shut_bool Try.underlying4 _), (trodAll_cons_mk (Below.trod laidOut (by kernel_rfl) (of_decide_eq_true (by kernel_rfl)) k0 bel lt0) (trodAll_cons_mk (Below.trod laidOut (by kernel_rfl) (of_decide_eq_true (by kernel_rfl)) k1 bel lt1) trodAll_mk0)), rfl, bel.frame _, fun h => by cases h⟩
theorem over : Rows.weaveBitsRow.holds Try.pinned (OpenSpec.ofChange Rows.weaveBitsSpec) :=
  OpenClaim.holds_of_wide 6 Try.f6 rfl rfl rfl rfl rfl rfl rfl ⟨rfl, rfl, rfl, rfl, rfl⟩ rfl rfl rfl rfl rfl (by kernel_rfl) Try.func6 (by kernel_rfl)
    (of_decide_eq_true (by kernel_rfl)) (by unfold Func.isWrapper; first | (rw [if_pos (by decide +kernel)]; kernel_rfl) | (rw [if_neg (by decide +kernel)]; exact ⟨rfl, rfl⟩))
    (fun os started H enc _ => lifted os started H enc)
theorem proved : Rows.WeaveBitsSaid := over
#print axioms proved
end Go.Proofs.Ytngcaphdkgihmaa.weaveBits
namespace Go.Proofs.Ytngcaphdkgihmaa
/-- The row, under a short name, for the claim. -/
theorem weaveBits_holds : Rows.WeaveBitsSaid := weaveBits.proved
end Go.Proofs.Ytngcaphdkgihmaa

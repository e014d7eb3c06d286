/- Own text: merged by wip/tools/pack.py out of what the law SpanMaps reaches. -/
import Derived.Test.YtnhbdhgbmjcjdaaProg
import Derived.Below
import Derived.Deep.Draws
import Derived.Deep.AppendLies
import Derived.Maps.AppendAt
import Derived.OwnWalk
import Derived.Laws.BytesArg
import Derived.Laws.MakeOwn
import Derived.Laws.OwnMore
import Derived.Deep.OwnRows
import Derived.Tactics
import Derived.Lib.ConvBytes
import Derived.Laws.Slices
import Derived.WalkKit
import Derived.KernelRfl
import Derived.RowKit3
import Derived.Deep.LoopGhost
import Derived.Deep.QuietTactic
import Derived.BigQuiet
import Derived.WideLaws
import Derived.Deep.DeepCutAuto
import Derived.Deep.CutBlock
import Derived.Deep.RegionHeld3
import Derived.Laws.Rows
import Derived.Lib.AppendStr
import Derived.ArgAppend
import Derived.Laws.IdiomCopy
import Derived.OrdersHeld
import Derived.Laws.BitsLemmas
import Derived.RowKit
import Derived.Test.YtnhbdhgbmjcjdaaMSpanMapsa
namespace Go.Proofs.Ytnhbdhgbmjcjdaa.P
open Go.RowKit Go.Proofs.YtnhbdhgbmjcjdaaW.PrintWords Go.Proofs.YtnhbdhgbmjcjdaaW.PrintLast Go.Proofs.YtnhbdhgbmjcjdaaW.PrintMore
attribute [local go_sem] z10 z12 z1h z1i zQ zR z11 z13   -- for this text's walks alone
set_option linter.unusedVariables false
set_option linter.unusedSimpArgs false
theorem zz88 {p : Prop} (h : p := by rfl) : p := h
theorem zz87 {p : Prop} (h : p := by simp) : p := h
theorem zz86 {p : Prop} (h : p := by omega) : p := h
theorem zz85 {p : Prop} (h : p := by decide) : p := h
theorem zz84 {p : Prop} (h : p := by kernel_rfl) : p := h
theorem zz83 {p : Prop} (h : p := by go_simp;rfl) : p := h
theorem zz82 {p : Prop} (h : p := by first|rfl|(simp;done)|(simp [*];done)) : p := h
theorem zz81 {p : Prop} (h : p := by first|(with_reducible assumption)|assumption) : p := h
theorem zz80 {p : Prop} (h : p := by (try simp only [List.map_toArray,List.map_cons,List.map_nil]);first|done|rfl) : p := h
theorem zz79 {p : Prop} (h : p := by have h_:=Kd.z2y HO_6.out (fun _ hk=>hk);intro e_;exact h_ (by rw [e_];rfl)) : p := h
theorem zz78 {p : Prop} (h : p := by simp only [putAll,Act.put,List.setIfInBounds_toArray,List.set_cons_zero,List.set_cons_succ]) : p := h
theorem zz77 {p : Prop} (h : p := by (with_reducible repeat (first|apply Kd.zL|apply Kd.zM|apply Kd.zS));exact HO0.out) : p := h
theorem zz76 {p : Prop} (h : p := by (with_reducible repeat (first|apply Kd.zL|apply Kd.zM|apply Kd.zS));exact HO_5.out) : p := h
theorem zz75 {p : Prop} (h : p := by (with_reducible repeat (first|apply Kd.zL|apply Kd.zM|apply Kd.zS));exact HO_0.out) : p := h
theorem zz74 {p : Prop} (h : p := by (with_reducible repeat (first|apply Kd.zL|apply Kd.zM|apply Kd.zS));exact HO_6.out) : p := h
theorem zz73 {p : Prop} (h : p := by (with_reducible repeat (first|apply Kd.zL|apply Kd.zM|apply Kd.zS));exact HO_3.out) : p := h
theorem zz72 {p : Prop} (h : p := by (with_reducible repeat (first|apply Kd.zL|apply Kd.zM|apply Kd.zS));exact HO_11.out) : p := h
theorem zz71 {p : Prop} (h : p := by (with_reducible repeat (first|apply Kd.zL|apply Kd.zM|apply Kd.zS));exact HO123.out) : p := h
theorem zz70 {p : Prop} (h : p := by (with_reducible repeat (first|apply Kd.zL|apply Kd.zM|apply Kd.zS));exact HO120.out) : p := h
theorem zz69 {p : Prop} (h : p := by (with_reducible repeat (first|apply Kd.zL|apply Kd.zM|apply Kd.zS));exact HO117.out) : p := h
theorem zz68 {p : Prop} (h : p := by (with_reducible repeat (first|apply Kd.zL|apply Kd.zM|apply Kd.zS));exact HO109.out) : p := h
theorem zz67 {p : Prop} (h : p := by (with_reducible repeat (first|apply Kd.zL|apply Kd.zM|apply Kd.zS));exact HO132.out) : p := h
theorem zz66 {p : Prop} (h : p := by (with_reducible repeat (first|apply Kd.zL|apply Kd.zM|apply Kd.zS));exact HO128.out) : p := h
theorem zz65 {p : Prop} (h : p := by (with_reducible repeat (first|apply Kd.zL|apply Kd.zM|apply Kd.zS));exact HO125.out) : p := h
theorem zz64 {p : Prop} (h : p := by (with_reducible repeat (first|apply Kd.zL|apply Kd.zM|apply Kd.zS));exact HO122.out) : p := h
theorem zz63 {p : Prop} (h : p := by (with_reducible repeat (first|apply Kd.zL|apply Kd.zM|apply Kd.zS));exact HO119.out) : p := h
theorem zz62 {p : Prop} (h : p := by (with_reducible repeat (first|apply Kd.zL|apply Kd.zM|apply Kd.zS));exact HO116.out) : p := h
theorem zz61 {p : Prop} (h : p := by (with_reducible repeat (first|apply Kd.zL|apply Kd.zM|apply Kd.zS));exact HO113.out) : p := h
theorem zz60 {p : Prop} (h : p := by (with_reducible repeat (first|apply Kd.zL|apply Kd.zM|apply Kd.zS));exact HO110.out) : p := h
theorem zz59 {p : Prop} (h : p := by (with_reducible repeat (first|apply Kd.zL|apply Kd.zM|apply Kd.zS));exact HO106.out) : p := h
theorem zz58 {p : Prop} (h : p := by (with_reducible repeat (first|apply Kd.zL|apply Kd.zM|apply Kd.zS));exact HO103.out) : p := h
theorem zz57 {p : Prop} (h : p := by (with_reducible repeat (first|apply Kd.zL|apply Kd.zM|apply Kd.zS));exact HO_15.out) : p := h
theorem zz56 {p : Prop} (h : p := by (with_reducible repeat (first|refine z8 ?_ _|refine zb ?_|refine z7 ?_ _));exact BK132.out) : p := h
theorem zz55 {p : Prop} (h : p := by (with_reducible repeat (first|refine z8 ?_ _|refine zb ?_|refine z7 ?_ _));exact BK113.out) : p := h
theorem zz54 {p : Prop} (h : p := by (with_reducible repeat (first|refine z8 ?_ _|refine zb ?_|refine z7 ?_ _));exact BK103.out) : p := h
theorem zz53 {p : Prop} (h : p := by (with_reducible repeat (first|refine z8 ?_ _|refine zb ?_|refine z7 ?_ _));exact BK109.out) : p := h
theorem zz52 {p : Prop} (h : p := by (with_reducible repeat (first|refine z8 ?_ _|refine zb ?_|refine z7 ?_ _));exact BK104.out) : p := h
theorem zz51 {p : Prop} (h : p := by (with_reducible repeat (first|refine z8 ?_ _|refine zb ?_|refine z7 ?_ _));exact BK106.out) : p := h
theorem zz50 {p : Prop} (h : p := by (with_reducible repeat (first|refine z8 ?_ _|refine zb ?_|refine z7 ?_ _));exact BK102.out) : p := h
theorem zz49 {p : Prop} (h : p := by (with_reducible repeat (first|refine z8 ?_ _|refine zb ?_|refine z7 ?_ _));exact BK101.out) : p := h
theorem zz48 {p : Prop} (h : p := by repeat (first|(with_reducible first|exact HK.out|apply Kept.alloc|apply Kept.drewN|apply Kept.drew)|exact HK.out)) : p := h
theorem zz47 {p : Prop} (h : p := by repeat (first|(with_reducible first|exact HB.out|apply zd|apply z3|apply zc)|exact HB.out)) : p := h
theorem zz46 {p : Prop} (h : p := by (with_reducible repeat (first|apply Kd.zL|apply Kd.zM|apply Kd.zS));exact Kd.z1j HO109.out (fun _ hk=>hk.2)) : p := h
theorem zz45 {p : Prop} (h : p := by (try simp only [List.map_toArray,List.map_cons,List.map_nil]);first|done|rfl|(simp only [List.length_drop,List.length_take];rfl)) : p := h
theorem zz44 {p : Prop} (h : p := by repeat (first|(with_reducible first|exact HB.out|apply zd|apply z3|apply zc|refine za ?_ GE103.out)|exact HB.out)) : p := h
theorem zz43 {p : Prop} (h : p := by repeat (first|(with_reducible first|exact HB.out|apply zd|apply z3|apply zc|refine za ?_ GE102.out)|exact HB.out)) : p := h
theorem zz42 {p : Prop} (h : p := by repeat (first|(with_reducible first|exact HB.out|apply zd|apply z3|apply zc|refine za ?_ GE106.out)|exact HB.out)) : p := h
theorem zz41 {p : Prop} (h : p := by repeat (first|(with_reducible first|exact HB.out|apply zd|apply z3|apply zc|refine za ?_ GE101.out)|exact HB.out)) : p := h
theorem zz40 {p : Prop} (h : p := by (try simp only [List.map_toArray,List.map_cons,List.map_nil]);first|done|(simp only [hji9];rfl)|rfl|(simp only [List.length_drop,List.length_take];rfl)) : p := h
theorem zz39 {p : Prop} (h : p := by repeat (first|(with_reducible first|exact HK.out|apply Kept.alloc|apply Kept.drewN|apply Kept.drew|refine Kept.setCell ?_ (.inr GW101.out) _)|exact HK.out)) : p := h
theorem zz38 {p : Prop} (h : p := by repeat (first|(with_reducible first|exact HB.out|apply zd|apply z3|apply zc|refine za ?_ GE101.out|refine za ?_ GE106.out)|exact HB.out)) : p := h
theorem zz37 {p : Prop} (h : p := by repeat (first|(with_reducible first|exact HB.out|apply zd|apply z3|apply zc|refine za ?_ GE101.out|refine za ?_ GE109.out)|exact HB.out)) : p := h
theorem zz36 {p : Prop} (h : p := by repeat (first|(with_reducible first|exact HB.out|apply zd|apply z3|apply zc|refine za ?_ GE101.out|refine za ?_ GE102.out)|exact HB.out)) : p := h
theorem zz35 {p : Prop} (h : p := by first|exact HK.out.1|exact (show Kept w _ (fun k_=>P0_ k_) from by repeat (first|(with_reducible first|exact HK.out|apply Kept.alloc|apply Kept.drewN|apply Kept.drew)|exact HK.out)).1) : p := h
theorem zz34 {p : Prop} (h : p := by repeat (first|(with_reducible first|exact HK.out|apply Kept.alloc|apply Kept.drewN|apply Kept.drew|refine Kept.setCell ?_ (.inr GW101.out) _|refine Kept.setCell ?_ (.inr GW109.out) _)|exact HK.out)) : p := h
theorem zz33 {p : Prop} (h : p := by repeat (first|(with_reducible first|exact HB.out|apply zd|apply z3|apply zc|refine za ?_ GE101.out|refine za ?_ GE106.out|refine za ?_ GE113.out)|exact HB.out)) : p := h
theorem zz32 {p : Prop} (h : p := by repeat (first|(with_reducible first|exact HB.out|apply zd|apply z3|apply zc|refine za ?_ GE101.out|refine za ?_ GE102.out|refine za ?_ GE103.out)|exact HB.out)) : p := h
theorem zz31 {p : Prop} (h : p := by repeat (first|(with_reducible first|exact HB.out|apply zd|apply z3|apply zc|refine za ?_ GE101.out|refine za ?_ GE102.out|refine za ?_ GE104.out)|exact HB.out)) : p := h
theorem zz30 {p : Prop} (h : p := by first|exact HK.out.1|exact (show Kept w _ (fun k_=>P0_ k_) from by repeat (first|(with_reducible first|exact HK.out|apply Kept.alloc|apply Kept.drewN|apply Kept.drew|refine Kept.setCell ?_ (.inr GW101.out) _)|exact HK.out)).1) : p := h
theorem zz29 {p : Prop} (h : p := by repeat (first|(with_reducible first|exact HB.out|apply zd|apply z3|apply zc|refine za ?_ GE101.out|refine za ?_ GE102.out|refine za ?_ GE103.out|refine za ?_ GE104.out)|exact HB.out)) : p := h
theorem zz28 {p : Prop} (h : p := by repeat (first|(with_reducible first|exact HB.out|apply zd|apply z3|apply zc|refine za ?_ GE101.out|refine za ?_ GE106.out|refine za ?_ GE113.out|refine za ?_ GE132.out)|exact HB.out)) : p := h
theorem zz27 {p : Prop} (h : p := by repeat (first|(with_reducible first|exact HB.out|apply zd|apply z3|apply zc|refine za ?_ GE101.out|refine za ?_ GE102.out|refine za ?_ GE103.out|refine za ?_ GE105.out)|exact HB.out)) : p := h
theorem zz26 {p : Prop} (h : p := by repeat (first|(with_reducible first|exact HB.out|apply zd|apply z3|apply zc|refine za ?_ GE101.out|refine za ?_ GE102.out|refine za ?_ GE103.out|refine za ?_ GE104.out|refine za ?_ GE106.out)|exact HB.out)) : p := h
theorem zz25 {p : Prop} (h : p := by repeat (first|(with_reducible first|exact HB.out|apply zd|apply z3|apply zc|refine za ?_ GE101.out|refine za ?_ GE106.out|refine za ?_ GE113.out|refine za ?_ GE132.out|refine za ?_ GE136.out)|exact HB.out)) : p := h
theorem zz24 {p : Prop} (h : p := by (with_reducible repeat (first|apply Kd.zL|apply Kd.zM|apply Kd.zS));exact (Kd.z1j (Kd.z1O (p:=⟨gb136,1,none⟩) (Kd.z1O (p:=⟨gb136,0,none⟩) (Kd.z1j HO_11.out (fun k_ hk=>(⟨hk,hk.2⟩ : _ ∧ k_ ≠ gb136))) (fun _ hk=>hk.2) (.int .u64 t133)) (fun _ hk=>hk.2) (.int .u64 t134)) (fun _ h_=>h_.1))) : p := h
theorem zz23 {p : Prop} (h : p := by (with_reducible repeat (first|apply Kd.zL|apply Kd.zM|apply Kd.zS));exact (Kd.z1j (Kd.z1O (p:=⟨gb132,1,none⟩) (Kd.z1O (p:=⟨gb132,0,none⟩) (Kd.z1j HO_11.out (fun k_ hk=>(⟨hk,hk.2⟩ : _ ∧ k_ ≠ gb132))) (fun _ hk=>hk.2) (.int .u64 t129)) (fun _ hk=>hk.2) (.int .u64 t130)) (fun _ h_=>h_.1))) : p := h
theorem zz22 {p : Prop} (h : p := by (with_reducible repeat (first|refine z8 ?_ _|refine zb ?_|refine z7 ?_ _));refine zP ?_ NB132_136.out _;(with_reducible repeat (first|refine z8 ?_ _|refine zb ?_|refine z7 ?_ _));refine zP ?_ NB132_136.out _;(with_reducible repeat (first|refine z8 ?_ _|refine zb ?_|refine z7 ?_ _));exact BK132.out) : p := h
theorem zz21 {p : Prop} (h : p := by (with_reducible repeat (first|refine z8 ?_ _|refine zb ?_|refine z7 ?_ _));refine zP ?_ NB113_136.out _;(with_reducible repeat (first|refine z8 ?_ _|refine zb ?_|refine z7 ?_ _));refine zP ?_ NB113_136.out _;(with_reducible repeat (first|refine z8 ?_ _|refine zb ?_|refine z7 ?_ _));exact BK113.out) : p := h
theorem zz20 {p : Prop} (h : p := by (with_reducible repeat (first|refine z8 ?_ _|refine zb ?_|refine z7 ?_ _));refine zP ?_ NB106_136.out _;(with_reducible repeat (first|refine z8 ?_ _|refine zb ?_|refine z7 ?_ _));refine zP ?_ NB106_136.out _;(with_reducible repeat (first|refine z8 ?_ _|refine zb ?_|refine z7 ?_ _));exact BK106.out) : p := h
theorem zz19 {p : Prop} (h : p := by (with_reducible repeat (first|refine z8 ?_ _|refine zb ?_|refine z7 ?_ _));refine zP ?_ NB101_136.out _;(with_reducible repeat (first|refine z8 ?_ _|refine zb ?_|refine z7 ?_ _));refine zP ?_ NB101_136.out _;(with_reducible repeat (first|refine z8 ?_ _|refine zb ?_|refine z7 ?_ _));exact BK101.out) : p := h
theorem zz18 {p : Prop} (h : p := by (with_reducible repeat (first|refine z8 ?_ _|refine zb ?_|refine z7 ?_ _));refine zP ?_ NB113_132.out _;(with_reducible repeat (first|refine z8 ?_ _|refine zb ?_|refine z7 ?_ _));refine zP ?_ NB113_132.out _;(with_reducible repeat (first|refine z8 ?_ _|refine zb ?_|refine z7 ?_ _));exact BK113.out) : p := h
theorem zz17 {p : Prop} (h : p := by (with_reducible repeat (first|refine z8 ?_ _|refine zb ?_|refine z7 ?_ _));refine zP ?_ NB106_132.out _;(with_reducible repeat (first|refine z8 ?_ _|refine zb ?_|refine z7 ?_ _));refine zP ?_ NB106_132.out _;(with_reducible repeat (first|refine z8 ?_ _|refine zb ?_|refine z7 ?_ _));exact BK106.out) : p := h
theorem zz16 {p : Prop} (h : p := by (with_reducible repeat (first|refine z8 ?_ _|refine zb ?_|refine z7 ?_ _));refine zP ?_ NB101_132.out _;(with_reducible repeat (first|refine z8 ?_ _|refine zb ?_|refine z7 ?_ _));refine zP ?_ NB101_132.out _;(with_reducible repeat (first|refine z8 ?_ _|refine zb ?_|refine z7 ?_ _));exact BK101.out) : p := h
theorem zz15 {p : Prop} (h : p := by (with_reducible repeat (first|refine z8 ?_ _|refine zb ?_|refine z7 ?_ _));refine zP ?_ NB106_113.out _;(with_reducible repeat (first|refine z8 ?_ _|refine zb ?_|refine z7 ?_ _));refine zP ?_ NB106_113.out _;(with_reducible repeat (first|refine z8 ?_ _|refine zb ?_|refine z7 ?_ _));exact BK106.out) : p := h
theorem zz14 {p : Prop} (h : p := by (with_reducible repeat (first|refine z8 ?_ _|refine zb ?_|refine z7 ?_ _));refine zP ?_ NB101_113.out _;(with_reducible repeat (first|refine z8 ?_ _|refine zb ?_|refine z7 ?_ _));refine zP ?_ NB101_113.out _;(with_reducible repeat (first|refine z8 ?_ _|refine zb ?_|refine z7 ?_ _));exact BK101.out) : p := h
theorem zz13 {p : Prop} (h : p := by (with_reducible repeat (first|refine z8 ?_ _|refine zb ?_|refine z7 ?_ _));refine zP ?_ NB103_105.out _;(with_reducible repeat (first|refine z8 ?_ _|refine zb ?_|refine z7 ?_ _));refine zP ?_ NB103_105.out _;(with_reducible repeat (first|refine z8 ?_ _|refine zb ?_|refine z7 ?_ _));exact BK103.out) : p := h
theorem zz12 {p : Prop} (h : p := by (with_reducible repeat (first|refine z8 ?_ _|refine zb ?_|refine z7 ?_ _));refine zP ?_ NB102_105.out _;(with_reducible repeat (first|refine z8 ?_ _|refine zb ?_|refine z7 ?_ _));refine zP ?_ NB102_105.out _;(with_reducible repeat (first|refine z8 ?_ _|refine zb ?_|refine z7 ?_ _));exact BK102.out) : p := h
theorem zz11 {p : Prop} (h : p := by (with_reducible repeat (first|refine z8 ?_ _|refine zb ?_|refine z7 ?_ _));refine zP ?_ NB101_105.out _;(with_reducible repeat (first|refine z8 ?_ _|refine zb ?_|refine z7 ?_ _));refine zP ?_ NB101_105.out _;(with_reducible repeat (first|refine z8 ?_ _|refine zb ?_|refine z7 ?_ _));exact BK101.out) : p := h
theorem zz10 {p : Prop} (h : p := by (with_reducible repeat (first|refine z8 ?_ _|refine zb ?_|refine z7 ?_ _));refine zP ?_ NB101_109.out _;(with_reducible repeat (first|refine z8 ?_ _|refine zb ?_|refine z7 ?_ _));refine zP ?_ NB101_109.out _;(with_reducible repeat (first|refine z8 ?_ _|refine zb ?_|refine z7 ?_ _));exact BK101.out) : p := h
theorem zz9 {p : Prop} (h : p := by (with_reducible repeat (first|refine z8 ?_ _|refine zb ?_|refine z7 ?_ _));refine zT (cs:=#[.int .u64 0,.int .u64 0]) ?_ 1 _ rfl;(with_reducible repeat (first|refine z8 ?_ _|refine zb ?_|refine z7 ?_ _));refine zT (cs:=#[.int .u64 0,.int .u64 0]) ?_ 0 _ rfl;(with_reducible repeat (first|refine z8 ?_ _|refine zb ?_|refine z7 ?_ _));exact BK103.out) : p := h
theorem zz8 {p : Prop} (h : p := by (with_reducible repeat (first|refine z8 ?_ _|refine zb ?_|refine z7 ?_ _));refine zT (cs:=#[.int .u64 0,.int .u64 0]) ?_ 1 _ rfl;(with_reducible repeat (first|refine z8 ?_ _|refine zb ?_|refine z7 ?_ _));refine zT (cs:=#[.int .u64 0,.int .u64 0]) ?_ 0 _ rfl;(with_reducible repeat (first|refine z8 ?_ _|refine zb ?_|refine z7 ?_ _));exact BK102.out) : p := h
theorem zz7 {p : Prop} (h : p := by (with_reducible repeat (first|refine z8 ?_ _|refine zb ?_|refine z7 ?_ _));refine zT (cs:=#[.int .u64 0,.int .u64 0]) ?_ 1 _ rfl;(with_reducible repeat (first|refine z8 ?_ _|refine zb ?_|refine z7 ?_ _));refine zT (cs:=#[.int .u64 0,.int .u64 0]) ?_ 0 _ rfl;(with_reducible repeat (first|refine z8 ?_ _|refine zb ?_|refine z7 ?_ _));exact BK101.out) : p := h
theorem zz6 {p : Prop} (h : p := by (with_reducible repeat (first|refine z8 ?_ _|refine zb ?_|refine z7 ?_ _));refine zT (cs:=#[.int .u64 t133,.int .u64 0]) ?_ 1 _ rfl;(with_reducible repeat (first|refine z8 ?_ _|refine zb ?_|refine z7 ?_ _));refine zT (cs:=#[.int .u64 0,.int .u64 0]) ?_ 0 _ rfl;(with_reducible repeat (first|refine z8 ?_ _|refine zb ?_|refine z7 ?_ _));exact BK136.out) : p := h
theorem zz5 {p : Prop} (h : p := by (with_reducible repeat (first|refine z8 ?_ _|refine zb ?_|refine z7 ?_ _));refine zT (cs:=#[.int .u64 t129,.int .u64 0]) ?_ 1 _ rfl;(with_reducible repeat (first|refine z8 ?_ _|refine zb ?_|refine z7 ?_ _));refine zT (cs:=#[.int .u64 0,.int .u64 0]) ?_ 0 _ rfl;(with_reducible repeat (first|refine z8 ?_ _|refine zb ?_|refine z7 ?_ _));exact BK132.out) : p := h
theorem zz4 {p : Prop} (h : p := by (with_reducible repeat (first|refine z8 ?_ _|refine zb ?_|refine z7 ?_ _));refine zT (cs:=#[.int .u64 t104,.int .u64 0]) ?_ 1 _ rfl;(with_reducible repeat (first|refine z8 ?_ _|refine zb ?_|refine z7 ?_ _));refine zT (cs:=#[.int .u64 0,.int .u64 0]) ?_ 0 _ rfl;(with_reducible repeat (first|refine z8 ?_ _|refine zb ?_|refine z7 ?_ _));exact BK102.out) : p := h
theorem zz3 {p : Prop} (h : p := by (with_reducible repeat (first|refine z8 ?_ _|refine zb ?_|refine z7 ?_ _));refine zT (cs:=#[.int .u64 x104000_1,.int .u64 0]) ?_ 1 _ rfl;(with_reducible repeat (first|refine z8 ?_ _|refine zb ?_|refine z7 ?_ _));refine zT (cs:=#[.int .u64 0,.int .u64 0]) ?_ 0 _ rfl;(with_reducible repeat (first|refine z8 ?_ _|refine zb ?_|refine z7 ?_ _));exact BK102.out) : p := h
theorem zz2 {p : Prop} (h : p := by (with_reducible repeat (first|refine z8 ?_ _|refine zb ?_|refine z7 ?_ _));refine zT (cs:=#[.int .u64 ((rd_T35 l0 x10_1).f0),.int .u64 0]) ?_ 1 _ rfl;(with_reducible repeat (first|refine z8 ?_ _|refine zb ?_|refine z7 ?_ _));refine zT (cs:=#[.int .u64 0,.int .u64 0]) ?_ 0 _ rfl;(with_reducible repeat (first|refine z8 ?_ _|refine zb ?_|refine z7 ?_ _));exact BK105.out) : p := h
theorem zz1 {p : Prop} (h : p := by (with_reducible repeat (first|refine z8 ?_ _|refine zb ?_|refine z7 ?_ _));refine zT (cs:=#[.int .u64 (Go.bits .xor .u64 a0_0 a1_0),.int .u64 0]) ?_ 1 _ rfl;(with_reducible repeat (first|refine z8 ?_ _|refine zb ?_|refine z7 ?_ _));refine zT (cs:=#[.int .u64 0,.int .u64 0]) ?_ 0 _ rfl;(with_reducible repeat (first|refine z8 ?_ _|refine zb ?_|refine z7 ?_ _));exact BK103.out) : p := h
theorem zz0 {p : Prop} (h : p := by (with_reducible repeat (first|refine z8 ?_ _|refine zb ?_|refine z7 ?_ _));refine zT (cs:=#[.int .u64 t112,.int .u64 ((rd_T35 l0 x17_1).f1)]) ?_ 1 _ rfl;(with_reducible repeat (first|refine z8 ?_ _|refine zb ?_|refine z7 ?_ _));refine zT (cs:=#[.int .u64 ((rd_T35 l0 x17_1).f0),.int .u64 ((rd_T35 l0 x17_1).f1)]) ?_ 0 _ rfl;(with_reducible repeat (first|refine z8 ?_ _|refine zb ?_|refine z7 ?_ _));exact BK109.out) : p := h
def errW : Option Int → Value
 | none=>.nilIface
 | some c=>.iface 0 (.int .i64 c)
theorem zi : errW none = .nilIface:=rfl
theorem zj (c : Int) : errW (some c) = .iface 0 (.int .i64 c):=rfl
theorem info3 : (Try.prog.info? 3).map (fun i=>(i.zero,i.size,i.bytes)) = some (some (.int .i64 0),1,8):=by kernel_rfl
theorem info4 : (Try.prog.info? 4).map (fun i=>(i.zero,i.size,i.bytes)) = some (some (.bool false),1,1):=by kernel_rfl
theorem info33 : (Try.prog.info? 33).map (fun i=>(i.zero,i.size,i.bytes)) = some (some (.int .u64 0),1,8):=by kernel_rfl
theorem info35 : (Try.prog.info? 35).map (fun i=>(i.zero,i.size,i.bytes)) = some (some (.agg #[(.int .u64 0),(.int .u64 0)]),2,16):=by kernel_rfl
theorem info38 : (Try.prog.info? 38).map (fun i=>(i.zero,i.size,i.bytes)) = some (some (.agg #[(.int .u64 0),(.int .u64 0)]),2,16):=by kernel_rfl
theorem info88 : (Try.prog.info? 88).map (fun i=>(i.zero,i.size,i.bytes)) = some (some (.agg #[(.int .u64 0),(.int .u64 0),(.slice none 0 0)]),3,40):=by kernel_rfl
-- the values' own types
structure S35 where
 f0 : Int
 f1 : Int
def z35 : S35:=⟨(0 : Int),(0 : Int)⟩
def k35 : Kd S35:=Kd.iso (Kd.pair (Kd.int .u64) (Kd.int .u64)) (fun x : S35=>(x.f0,x.f1))
theorem k35_heap : Kd.Heap k35:=Kd.z4h _ (Kd.z3x (Kd.z3h .u64) (Kd.z3h .u64))
theorem z4m {w : World} {x : S35} {cs : List Value} (h : k35.K w x cs) : cs = [.int .u64 x.f0,.int .u64 x.f1]:=by
 obtain ⟨_,_,rfl,rfl,rfl⟩:=h
 exact rfl
theorem z27 {w : World} {base : Nat} {ok : Nat → Prop} {x : S35} {cs : List Value} (h : k35.M w base ok x cs) : cs = [.int .u64 x.f0,.int .u64 x.f1]:=by
 obtain ⟨_,_,rfl,rfl,rfl⟩:=h
 exact rfl
theorem k35_mk (w : World) (x : S35)  : k35.K w x [.int .u64 x.f0,.int .u64 x.f1]:=⟨[.int .u64 x.f0],[.int .u64 x.f1],rfl,rfl,rfl⟩
theorem z2g (w : World) (base : Nat) (ok : Nat → Prop) (x : S35)  : k35.M w base ok x [.int .u64 x.f0,.int .u64 x.f1]:=⟨[.int .u64 x.f0],[.int .u64 x.f1],rfl,rfl,rfl⟩
theorem k35_mkF (W : World) (ok : Nat → Prop) (x : S35) : Kd.FK k35 W ok x [.int .u64 x.f0,.int .u64 x.f1]:=fun W2 _=>k35_mk W2 x
def rd_T35 (xs : List S35) (i : Int) : S35:=xs.getD i.toNat z35
theorem z1Q {w : World} {A : Option Addr} {n : Nat} {xs : List S35} (h : Kd.C k35 w A n xs) (i : Int) (h0 : 0 ≤ i) (h1 : i < n) : ∃ ad , A = some ad ∧ w.cell? (ad.add (i.toNat * 2)) = some (.int .u64 (rd_T35 xs i).f0) ∧ w.cell? ⟨(ad.add (i.toNat * 2)).block,(ad.add (i.toNat * 2)).off + 1,none⟩ = some (.int .u64 (rd_T35 xs i).f1):=by
 obtain ⟨ad,c,e,_,hK,hc0⟩:=Kd.z5L h z35 i h0 h1
 have hc : ∀ j u,c[j]? = some u → w.cell? (ad.add (i.toNat * 2 + j)) = some u:=hc0
 obtain rfl:=z4m hK
 exact ⟨ad,e,hc 0 _ rfl,by rw [← z2V _ _ 1 zz86];exact hc 1 _ rfl⟩
structure S38 where
 f0 : Int
 f1 : Int
def z38 : S38:=⟨(0 : Int),(0 : Int)⟩
def k38 : Kd S38:=Kd.iso (Kd.pair (Kd.int .u64) (Kd.int .u64)) (fun x : S38=>(x.f0,x.f1))
theorem k38_heap : Kd.Heap k38:=Kd.z4h _ (Kd.z3x (Kd.z3h .u64) (Kd.z3h .u64))
theorem k38_open {w : World} {x : S38} {cs : List Value} (h : k38.K w x cs) : cs = [.int .u64 x.f0,.int .u64 x.f1]:=by
 obtain ⟨_,_,rfl,rfl,rfl⟩:=h
 exact rfl
theorem k38_openM {w : World} {base : Nat} {ok : Nat → Prop} {x : S38} {cs : List Value} (h : k38.M w base ok x cs) : cs = [.int .u64 x.f0,.int .u64 x.f1]:=by
 obtain ⟨_,_,rfl,rfl,rfl⟩:=h
 exact rfl
theorem k38_mk (w : World) (x : S38)  : k38.K w x [.int .u64 x.f0,.int .u64 x.f1]:=⟨[.int .u64 x.f0],[.int .u64 x.f1],rfl,rfl,rfl⟩
theorem z4Y (w : World) (base : Nat) (ok : Nat → Prop) (x : S38)  : k38.M w base ok x [.int .u64 x.f0,.int .u64 x.f1]:=⟨[.int .u64 x.f0],[.int .u64 x.f1],rfl,rfl,rfl⟩
theorem k38_mkF (W : World) (ok : Nat → Prop) (x : S38) : Kd.FK k38 W ok x [.int .u64 x.f0,.int .u64 x.f1]:=fun W2 _=>k38_mk W2 x
def z1r (xs : List S38) (i : Int) : S38:=xs.getD i.toNat z38
theorem z3b {w : World} {A : Option Addr} {n : Nat} {xs : List S38} (h : Kd.C k38 w A n xs) (i : Int) (h0 : 0 ≤ i) (h1 : i < n) : ∃ ad , A = some ad ∧ w.cell? (ad.add (i.toNat * 2)) = some (.int .u64 (z1r xs i).f0) ∧ w.cell? ⟨(ad.add (i.toNat * 2)).block,(ad.add (i.toNat * 2)).off + 1,none⟩ = some (.int .u64 (z1r xs i).f1):=by
 obtain ⟨ad,c,e,_,hK,hc0⟩:=Kd.z5L h z38 i h0 h1
 have hc : ∀ j u,c[j]? = some u → w.cell? (ad.add (i.toNat * 2 + j)) = some u:=hc0
 obtain rfl:=k38_open hK
 exact ⟨ad,e,hc 0 _ rfl,by rw [← z2V _ _ 1 zz86];exact hc 1 _ rfl⟩
def rd_L3 (xs : List (List S35)) (i : Int) : (List S35):=xs.getD i.toNat ([] : List S35)
theorem at_L3 {w : World} {A : Option Addr} {n : Nat} {xs : List (List S35)} (h : Kd.C (Kd.slice 35 k35) w A n xs) (i : Int) (h0 : 0 ≤ i) (h1 : i < n) : ∃ ad A0 c0,A = some ad ∧ w.cell? (ad.add i.toNat) = some (.slice A0 (rd_L3 xs i).length c0) ∧ (rd_L3 xs i).length ≤ c0 ∧ k35.C w A0 (rd_L3 xs i).length (rd_L3 xs i):=by
 obtain ⟨ad,c,e,_,hK,hc0⟩:=Kd.z5L h ([] : List S35) i h0 h1
 have hc : ∀ j u,c[j]? = some u → w.cell? (ad.add (i.toNat * 1 + j)) = some u:=hc0
 obtain ⟨A0,c0,rfl,l0,g0⟩:=hK
 exact ⟨ad,A0,c0,e,by have hq:=hc 0 _ rfl;rwa [Nat.mul_one,Nat.add_zero] at hq,l0,g0⟩
def rd_L6 (xs : List (List Bool)) (i : Int) : (List Bool):=xs.getD i.toNat ([] : List Bool)
theorem at_L6 {w : World} {A : Option Addr} {n : Nat} {xs : List (List Bool)} (h : Kd.C (Kd.slice 4 Kd.bool) w A n xs) (i : Int) (h0 : 0 ≤ i) (h1 : i < n) : ∃ ad A0 c0,A = some ad ∧ w.cell? (ad.add i.toNat) = some (.slice A0 (rd_L6 xs i).length c0) ∧ (rd_L6 xs i).length ≤ c0 ∧ Kd.bool.C w A0 (rd_L6 xs i).length (rd_L6 xs i):=by
 obtain ⟨ad,c,e,_,hK,hc0⟩:=Kd.z5L h ([] : List Bool) i h0 h1
 have hc : ∀ j u,c[j]? = some u → w.cell? (ad.add (i.toNat * 1 + j)) = some u:=hc0
 obtain ⟨A0,c0,rfl,l0,g0⟩:=hK
 exact ⟨ad,A0,c0,e,by have hq:=hc 0 _ rfl;rwa [Nat.mul_one,Nat.add_zero] at hq,l0,g0⟩
structure S88 where
 f0 : S35
 f1 : (List Bool)
def z88 : S88:=⟨z35,([] : List Bool)⟩
def k88 : Kd S88:=Kd.iso (Kd.pair k35 (Kd.slice 4 Kd.bool)) (fun x : S88=>(x.f0,x.f1))
theorem k88_heap : Kd.Heap k88:=Kd.z4h _ (Kd.z3x k35_heap (Kd.z5x 4 Kd.z64))
theorem z4n {w : World} {x : S88} {cs : List Value} (h : k88.K w x cs) : ∃ A2 c2,cs = [.int .u64 x.f0.f0,.int .u64 x.f0.f1,.slice A2 x.f1.length c2] ∧ x.f1.length ≤ c2 ∧ Kd.bool.C w A2 x.f1.length x.f1:=by
 obtain ⟨_,_,rfl,s0,⟨A2,c2,rfl,l2,g2⟩⟩:=h
 obtain rfl:=z4m s0
 exact ⟨A2,c2,rfl,l2,g2⟩
theorem k88_openM {w : World} {base : Nat} {ok : Nat → Prop} {x : S88} {cs : List Value} (h : k88.M w base ok x cs) : ∃ v2,cs = [.int .u64 x.f0.f0,.int .u64 x.f0.f1,v2] ∧ Kd.bool.R 4 w base ok v2 x.f1:=by
 obtain ⟨_,_,rfl,s0,⟨v2,rfl,g2⟩⟩:=h
 obtain rfl:=z27 s0
 exact ⟨v2,rfl,g2⟩
theorem k88_mk (w : World) (x : S88) {A2 : Option Addr} {c2 : Nat} (l2 : x.f1.length ≤ c2) (g2 : Kd.bool.C w A2 x.f1.length x.f1) : k88.K w x [.int .u64 x.f0.f0,.int .u64 x.f0.f1,.slice A2 x.f1.length c2]:=⟨[.int .u64 x.f0.f0,.int .u64 x.f0.f1],[.slice A2 x.f1.length c2],rfl,(k35_mk w x.f0 ),⟨A2,c2,rfl,l2,g2⟩⟩
theorem k88_mkM (w : World) (base : Nat) (ok : Nat → Prop) (x : S88) {v2 : Value} (g2 : Kd.bool.R 4 w base ok v2 x.f1) : k88.M w base ok x [.int .u64 x.f0.f0,.int .u64 x.f0.f1,v2]:=⟨[.int .u64 x.f0.f0,.int .u64 x.f0.f1],[v2],rfl,(z2g w base ok x.f0 ),⟨v2,rfl,g2⟩⟩
theorem k88_openF {W : World} {ok : Nat → Prop} {x : S88} {cs : List Value} (h : Kd.FK k88 W ok x cs) : ∃ A2 c2,cs = [.int .u64 x.f0.f0,.int .u64 x.f0.f1,.slice A2 x.f1.length c2] ∧ x.f1.length ≤ c2 ∧ Kd.F Kd.bool W ok A2 x.f1.length x.f1:=by
 obtain ⟨A2,c2,rfl,l2,_⟩:=z4n (Kd.FK_now h)
 exact ⟨A2,c2,rfl,l2,(fun W' hW=>by obtain ⟨A2_,c2_,he,l2_,g2_⟩:=z4n (h W' hW);injection (Option.some.inj (show some (Value.slice A2 x.f1.length c2) = some (Value.slice A2_ x.f1.length c2_) from congrArg (fun l=>l[2]?) he)) with ha_ _ _;rw [ha_];exact g2_)⟩
theorem k88_mkF (W : World) (ok : Nat → Prop) (x : S88) {A2 : Option Addr} {c2 : Nat} (l2 : x.f1.length ≤ c2) (g2 : Kd.F Kd.bool W ok A2 x.f1.length x.f1) : Kd.FK k88 W ok x [.int .u64 x.f0.f0,.int .u64 x.f0.f1,.slice A2 x.f1.length c2]:=fun W2 hW=>k88_mk W2 x l2 (g2 W2 hW)
def z41 (xs : List S88) (i : Int) : S88:=xs.getD i.toNat z88
theorem at_T88 {w : World} {A : Option Addr} {n : Nat} {xs : List S88} (h : Kd.C k88 w A n xs) (i : Int) (h0 : 0 ≤ i) (h1 : i < n) : ∃ ad A2 c2,A = some ad ∧ w.cell? (ad.add (i.toNat * 3)) = some (.int .u64 (z41 xs i).f0.f0) ∧ w.cell? ⟨(ad.add (i.toNat * 3)).block,(ad.add (i.toNat * 3)).off + 1,none⟩ = some (.int .u64 (z41 xs i).f0.f1) ∧ w.cell? ⟨(ad.add (i.toNat * 3)).block,(ad.add (i.toNat * 3)).off + 2,none⟩ = some (.slice A2 (z41 xs i).f1.length c2) ∧ (z41 xs i).f1.length ≤ c2 ∧ Kd.bool.C w A2 (z41 xs i).f1.length (z41 xs i).f1:=by
 obtain ⟨ad,c,e,_,hK,hc0⟩:=Kd.z5L h z88 i h0 h1
 have hc : ∀ j u,c[j]? = some u → w.cell? (ad.add (i.toNat * 3 + j)) = some u:=hc0
 obtain ⟨A2,c2,rfl,l2,g2⟩:=z4n hK
 exact ⟨ad,A2,c2,e,hc 0 _ rfl,by rw [← z2V _ _ 1 zz86];exact hc 1 _ rfl,by rw [← z2V _ _ 2 zz86];exact hc 2 _ rfl,l2,g2⟩
end Go.Proofs.Ytnhbdhgbmjcjdaa.P
namespace Go.Proofs.Ytnhbdhgbmjcjdaa.P
open Go.RowKit Go.Proofs.YtnhbdhgbmjcjdaaW.PrintWords Go.Proofs.YtnhbdhgbmjcjdaaW.PrintLast Go.Proofs.YtnhbdhgbmjcjdaaW.PrintMore
attribute [local go_sem] z10 z12 z1h z1i zQ zR z11 z13   -- for this text's walks alone
set_option linter.unusedVariables false
set_option linter.unusedSimpArgs false
theorem eqA35 (d : Nat) (w : World) (x0 y0 : Int) (x1 y1 : Int) :
 (Op.equalIn (d + 2) 35 (.agg #[.int .u64 x0,.int .u64 x1]) (.agg #[.int .u64 y0,.int .u64 y1])).run Try.prog w = .ok (x0 == y0 && (x1 == y1)) w:=by
 refine eqA_of Try.underlying35 zz84 ?_
 refine z59 zz88 zz83 zz83 (by go_simp) ?_
 exact z5a zz88 zz83 zz83 (by go_simp)
end Go.Proofs.Ytnhbdhgbmjcjdaa.P
namespace Go.Proofs.Ytnhbdhgbmjcjdaa.P
open Go.RowKit Go.Proofs.YtnhbdhgbmjcjdaaW.PrintWords Go.Proofs.YtnhbdhgbmjcjdaaW.PrintLast Go.Proofs.YtnhbdhgbmjcjdaaW.PrintMore
attribute [local go_sem] z10 z12 z1h z1i zQ zR z11 z13   -- for this text's walks alone
set_option linter.unusedVariables false
set_option linter.unusedSimpArgs false
theorem eqA38 (d : Nat) (w : World) (x0 y0 : Int) (x1 y1 : Int) :
 (Op.equalIn (d + 2) 38 (.agg #[.int .u64 x0,.int .u64 x1]) (.agg #[.int .u64 y0,.int .u64 y1])).run Try.prog w = .ok (x0 == y0 && (x1 == y1)) w:=by
 refine eqA_of Try.underlying38 zz84 ?_
 refine z59 zz88 zz83 zz83 (by go_simp) ?_
 exact z5a zz88 zz83 zz83 (by go_simp)
end Go.Proofs.Ytnhbdhgbmjcjdaa.P
namespace Go.Proofs.Ytnhbdhgbmjcjdaa.P
open Go.RowKit Go.Proofs.YtnhbdhgbmjcjdaaW.PrintWords Go.Proofs.YtnhbdhgbmjcjdaaW.PrintLast Go.Proofs.YtnhbdhgbmjcjdaaW.PrintMore
attribute [local go_sem] z10 z12 z1h z1i zQ zR z11 z13   -- for this text's walks alone
set_option linter.unusedVariables false
set_option linter.unusedSimpArgs false
def zg.l0 : Nat → List (S35) → List (S38) → Int → Option ((List (S38)))
 | 0,_,_,_=>none
 | k + 1,x0,x3,x4=>if x4 < (x0.length : Int) then (if 0 ≤ x4 then (if x3.length < 8796093022208 then (zg.l0 k x0 (x3 ++ [(⟨(rd_T35 x0 x4).f0,(rd_T35 x0 x4).f1⟩ : S38)]) (wrap64 (x4 + 1))) else (none)) else (none)) else (some x3)
def zg.f (k : Nat) (l0 : List (S35)) : Option ((List (S38))):=zg.l0 k l0 ([] : List (S38)) 0
theorem zg.zY : ∀ k,(∀ y0 y1 y2,LeO (zg.l0 k y0 y1 y2) (zg.l0 (k + 1) y0 y1 y2))
 | 0=>fun _ _ _ r h=>by simp [zg.l0] at h
 | k + 1=>by
  have ih0:=zg.zY k
  · intro y0 y1 y2
    unfold zg.l0
    repeat' first
    | (with_reducible exact ih0 _ _ _)
    | (with_reducible exact LeO.refl _)
    | (with_reducible exact LeO.none _)
    | (with_reducible refine LeO.ite ?_ ?_)
    | (with_reducible refine LeO.bind ?_ (fun _=>?_))
    | exact ih0 _ _ _
    | exact LeO.none _
    | refine LeO.ite ?_ ?_
    | refine LeO.bind ?_ (fun _=>?_)
theorem zg.mono : ∀ a0 k,LeO (zg.f k a0) (zg.f (k + 1) a0):=by
 intro a0 k
 have ih0:=zg.zY k
 unfold zg.f
 repeat' first
  | (with_reducible exact ih0 _ _ _)
  | (with_reducible exact LeO.refl _)
  | (with_reducible exact LeO.none _)
  | (with_reducible refine LeO.ite ?_ ?_)
  | (with_reducible refine LeO.bind ?_ (fun _=>?_))
  | exact ih0 _ _ _
  | exact LeO.none _
  | refine LeO.ite ?_ ?_
  | refine LeO.bind ?_ (fun _=>?_)
set_option maxHeartbeats 8000000 in
set_option maxRecDepth 100000 in
theorem zg.calls (k : Nat) (A0 : Option Addr) (c0 : Nat) (l0 : List (S35)) (r : List (S38)) (w : World) (hr0 : Kd.C k35 w A0 l0.length l0) (hc0 : l0.length ≤ c0) (h : zg.f k l0 = some r) :
 Calls Try.prog 13 #[.slice A0 l0.length c0] w fun e w'=>∃ v0_ : Value,e = .returned (v0_) ∧ Kd.R k38 38 w' w.heap.size (fun _=>True) v0_ r ∧ Below w.heap.size w w':=by
 have hu35:=Try.underlying35
 have HR0:=z1.mk hr0
 have HC0:=z1.mk hc0
 clear hr0 hc0
 have HB:=z1.mk (Below.refl w.heap.size w)
 have H : (zg.l0 k l0 ([] : List (S38)) 0) = some r:=h
 clear h
 have H':=z1.mk H
 clear H
 go_enter Try.func13,Try.ntmps13
 go_wp2
 go_loopg [3,4] k (fun kq v3 v4 w'=>∃ (x3_1 : List (S38)) (x4_1 : Int),v4 = .int .i64 x4_1 ∧ z1 (zg.l0 kq l0 x3_1 x4_1 = some r) ∧ z1 (kq ≤ k) ∧ z1 (Kd.R k38 38 w' w.heap.size (fun _=>True) v3 x3_1) ∧ z1 (Below w.heap.size w w'))
 case atStart=>exact ⟨(([] : List (S38))),(0),zz82,H',⟨Nat.le_refl _⟩,⟨by first|exact Kd.z2e _ _ _ _ _|exact Kd.z2t _ _ _ _ _|exact Kd.z2w _ _ _ _ _|exact Kd.z2u _ _ _ _ _|exact Kd.z2v _ _ _ _ _⟩,⟨by repeat (first|(with_reducible first|exact HB.out|apply zd|apply z3|apply zc)|exact HB.out)⟩⟩
 case round =>
  clear H'
  (try clear c1)
  obtain ⟨x3_1,x4_1,rfl,HA,HK1,HO_3,HB⟩:=hrel
  cases gk with
  | zero=>exact absurd HA.out (by simp [zg.l0])
  | succ k1 =>
   have H:=HA.out
   clear HA
   simp only [zg.l0] at H
   by_cases c2 : x4_1 < (l0.length : Int)
   rotate_left
   · rw [if_neg c2] at H
     have c2b0 : decide (x4_1 < (l0.length : Int)) = false:=decide_eq_false c2
     clear c2
     obtain rfl:=Option.some.inj H
     go_wp2
     go_ret
     exact ⟨_,by first|rfl|(simp [zi,zj] <;> rfl)|(simp [*,zi,zj] <;> rfl),by (with_reducible repeat (first|apply Kd.zL|apply Kd.zM|apply Kd.zS));exact HO_3.out,by repeat (first|(with_reducible first|exact HB.out|apply zd|apply z3|apply zc)|exact HB.out)⟩
   rw [if_pos c2] at H
   have c2b0 : decide (x4_1 < (l0.length : Int)) = true:=decide_eq_true c2
   clear c2
   by_cases c3 : 0 ≤ x4_1
   rotate_left
   · rw [if_neg c3] at H
     exact absurd H zz87
   rw [if_pos c3] at H
   have c3b0 : decide (0 ≤ x4_1) = true:=decide_eq_true c3
   clear c3
   by_cases c4 : x3_1.length < 8796093022208
   rotate_left
   · rw [if_neg c4] at H
     exact absurd H zz87
   rw [if_pos c4] at H
   have LMc4:=z1.mk c4
   clear c4
   obtain ⟨y102,hy102⟩ : ∃ y_ : List (S38),y_ = (x3_1 ++ [(⟨(rd_T35 l0 x4_1).f0,(rd_T35 l0 x4_1).f1⟩ : S38)]):=⟨_,rfl⟩
   replace H : (zg.l0 k1 l0 y102 (wrap64 (x4_1 + 1))) = some r:=by first|(rw [hy102];with_reducible exact H)|(have H2_:=(Option.bind_some _ _).symm.trans H;rw [hy102];with_reducible exact H2_)|(have H2_:=(Option.bind_some _ _).symm.trans H;with_reducible exact H2_)|with_reducible exact H|(rw [hy102];exact H)|exact H
   have Ny102:=z1.mk hy102
   clear hy102
   have H':=z1.mk H
   clear H
   have p101 : 0 ≤ (x4_1 : Int):=of_decide_eq_true zz81
   have q101 : x4_1 < (l0.length : Int):=of_decide_eq_true zz81
   obtain ⟨ad101,e101,hx101_0,hx101_1⟩:=z1Q HR0.out x4_1 p101 q101
   cases e101
   replace hx101_0:=(HB.out.cell (World.block_lt_of_cell? w _ hx101_0)).trans hx101_0
   replace hx101_1:=(HB.out.cell (World.block_lt_of_cell? w _ hx101_1)).trans hx101_1
   replace p101:=eq_true p101
   replace q101:=eq_true q101
   go_wp2_with (first|((with_reducible refine z1H (b:=.append) (xs:=#[.tmp 11,.tmp 16]) rfl ?_);at_builtin;refine Kd.z2b k38 (w0:=w) w.heap.size rfl (.tmp 11) (.tmp 16) 27 38 (.agg #[(.int .u64 0),(.int .u64 0)]) 16 rfl Try.underlying27 info38 rfl zz85 zz86 u3 x3_1 (⟨(rd_T35 l0 x4_1).f0,(rd_T35 l0 x4_1).f1⟩ : S38) [.int .u64 ((rd_T35 l0 x4_1).f0),.int .u64 ((rd_T35 l0 x4_1).f1)] (fun _=>True) (fun _=>False) rfl rfl ?aP (fun _ hk=>hk.elim) ?aF ?aO ?aB ?aS ?aL ?_;(case aP=>exact z4Y _ _ _ (⟨(rd_T35 l0 x4_1).f0,(rd_T35 l0 x4_1).f1⟩ : S38));(case aB=>exact zz47);(case aF=>exact (fun _ _=>trivial));(case aO=>exact zz73);(case aS=>exact (zf zz47));(case aL=>have:=LMc4.out;omega);intro v103 w5 ho hb hg hat;rw [← Ny102.out] at ho;have n0_:=z1.mk (hb);have n1_:=z1.mk (ho);clear HB;clear HO_3;have HB:=n0_;have HO104:=n1_;clear n0_ n1_;clear ho hb hg hat))
   go_roundg k1
   case measure=>have:=HK1.out;omega
   case rel=>exact ⟨(y102),(wrap64 (x4_1 + 1)),zz82,H',⟨by have:=HK1.out;omega⟩,⟨by (with_reducible repeat (first|apply Kd.zL|apply Kd.zM|apply Kd.zS));exact HO104.out⟩,⟨by repeat (first|(with_reducible first|exact HB.out|apply zd|apply z3|apply zc)|exact HB.out)⟩⟩
end Go.Proofs.Ytnhbdhgbmjcjdaa.P
namespace Go.Proofs.Ytnhbdhgbmjcjdaa.P
open Go.RowKit Go.Proofs.YtnhbdhgbmjcjdaaW.PrintWords Go.Proofs.YtnhbdhgbmjcjdaaW.PrintLast Go.Proofs.YtnhbdhgbmjcjdaaW.PrintMore
attribute [local go_sem] z10 z12 z1h z1i zQ zR z11 z13   -- for this text's walks alone
set_option linter.unusedVariables false
set_option linter.unusedSimpArgs false
attribute [local go_sem high] eqA38
def zh.l0 : Nat → List (S35) → List (S38) → Int → Option (Bool)
 | 0,_,_,_=>none
 | k + 1,x0,x1,x5=>if x5 < (x0.length : Int) then (if 0 ≤ x5 then (if x5 < (x1.length : Int) then (if (!(((rd_T35 x0 x5).f0) == ((z1r x1 x5).f0)) || (!(((rd_T35 x0 x5).f1) == ((z1r x1 x5).f1)))) = true then (some false) else (zh.l0 k x0 x1 (wrap64 (x5 + 1)))) else (none)) else (none)) else (some true)
def zh.f (k : Nat) (l0 : List (S35)) (l1 : List (S38)) : Option (Bool):=if (l0.length : Int) = (l1.length : Int) then (zh.l0 k l0 l1 0) else (some false)
theorem zh.zY : ∀ k,(∀ y0 y1 y2,LeO (zh.l0 k y0 y1 y2) (zh.l0 (k + 1) y0 y1 y2))
 | 0=>fun _ _ _ r h=>by simp [zh.l0] at h
 | k + 1=>by
  have ih0:=zh.zY k
  · intro y0 y1 y2
    unfold zh.l0
    repeat' first
    | (with_reducible exact ih0 _ _ _)
    | (with_reducible exact LeO.refl _)
    | (with_reducible exact LeO.none _)
    | (with_reducible refine LeO.ite ?_ ?_)
    | (with_reducible refine LeO.bind ?_ (fun _=>?_))
    | exact ih0 _ _ _
    | exact LeO.none _
    | refine LeO.ite ?_ ?_
    | refine LeO.bind ?_ (fun _=>?_)
theorem zh.mono : ∀ a0 a1 k,LeO (zh.f k a0 a1) (zh.f (k + 1) a0 a1):=by
 intro a0 a1 k
 have ih0:=zh.zY k
 unfold zh.f
 repeat' first
  | (with_reducible exact ih0 _ _ _)
  | (with_reducible exact LeO.refl _)
  | (with_reducible exact LeO.none _)
  | (with_reducible refine LeO.ite ?_ ?_)
  | (with_reducible refine LeO.bind ?_ (fun _=>?_))
  | exact ih0 _ _ _
  | exact LeO.none _
  | refine LeO.ite ?_ ?_
  | refine LeO.bind ?_ (fun _=>?_)
set_option maxHeartbeats 8000000 in
set_option maxRecDepth 100000 in
theorem zh.calls (k : Nat) (A0 : Option Addr) (c0 : Nat) (l0 : List (S35)) (A1 : Option Addr) (c1 : Nat) (l1 : List (S38)) (r : Bool) (w : World) (hr0 : Kd.C k35 w A0 l0.length l0) (hc0 : l0.length ≤ c0) (hr1 : Kd.C k38 w A1 l1.length l1) (hc1 : l1.length ≤ c1) (h : zh.f k l0 l1 = some r) :
 Calls Try.prog 14 #[.slice A0 l0.length c0,.slice A1 l1.length c1] w fun e w'=>e = .returned (.bool r) ∧ Drawn0 w w':=by
 have hu35:=Try.underlying35
 have hu38:=Try.underlying38
 have HR0:=z1.mk hr0
 have HC0:=z1.mk hc0
 clear hr0 hc0
 have HR1:=z1.mk hr1
 have HC1:=z1.mk hc1
 clear hr1 hc1
 have H : (if (l0.length : Int) = (l1.length : Int) then (zh.l0 k l0 l1 0) else (some false)) = some r:=h
 clear h
 by_cases c3 : (l0.length : Int) = (l1.length : Int)
 rotate_left
 · rw [if_neg c3] at H
   have c3b0 : ((l0.length : Int) == (l1.length : Int)) = false:=beq_eq_false_iff_ne.mpr c3
   have c3b1 : ((l0.length : Int) != (l1.length : Int)) = true:=bne_iff_ne.mpr c3
   have c3b2 : (l0.length == l1.length) = false:=by first|simpa using c3|(simp at c3 ⊢;omega)
   obtain rfl:=Option.some.inj H
   go_enter Try.func14,Try.ntmps14
   go_wp2
   repeat (go_quiet (fail);try go_wp2)
   go_ret
   exact ⟨by first|rfl|(simp;done)|(simp [*];done),by repeat (first|exact Drawn0.refl _|apply Drawn0.step)⟩
 rw [if_pos c3] at H
 have c3b0 : ((l0.length : Int) == (l1.length : Int)) = true:=beq_iff_eq.mpr c3
 have c3b1 : ((l0.length : Int) != (l1.length : Int)) = false:=bne_eq_false_iff_eq.mpr c3
 have c3b2 : (l0.length == l1.length) = true:=by first|simpa using c3|(simp at c3 ⊢;omega)
 clear c3
 have H':=z1.mk H
 clear H
 go_enter Try.func14,Try.ntmps14
 go_wp2
 repeat (go_quiet (fail);try go_wp2)
 go_loopg [5] k (fun kq v5 w'=>∃ (x5_1 : Int),v5 = .int .i64 x5_1 ∧ z1 (zh.l0 kq l0 l1 x5_1 = some r) ∧ z1 (kq ≤ k) ∧ Drawn0 w w')
 case atStart=>exact ⟨(0),zz82,H',⟨Nat.le_refl _⟩,by repeat (first|exact Drawn0.refl _|apply Drawn0.step)⟩
 case round =>
  clear H'
  (try clear c1);(try clear p2);(try clear c3);(try clear c3b0);(try clear c3b1);(try clear c3b2)
  obtain ⟨x5_1,rfl,HA,HK1,⟨m1,rfl⟩⟩:=hrel
  cases gk with
  | zero=>exact absurd HA.out (by simp [zh.l0])
  | succ k1 =>
   have H:=HA.out
   clear HA
   simp only [zh.l0] at H
   by_cases c4 : x5_1 < (l0.length : Int)
   rotate_left
   · rw [if_neg c4] at H
     have c4b0 : decide (x5_1 < (l0.length : Int)) = false:=decide_eq_false c4
     clear c4
     obtain rfl:=Option.some.inj H
     go_wp2
     repeat (go_quiet (fail);try go_wp2)
     go_ret
     exact ⟨by first|rfl|(simp;done)|(simp [*];done),by repeat (first|exact Drawn0.refl _|apply Drawn0.step)⟩
   rw [if_pos c4] at H
   have c4b0 : decide (x5_1 < (l0.length : Int)) = true:=decide_eq_true c4
   clear c4
   by_cases c5 : 0 ≤ x5_1
   rotate_left
   · rw [if_neg c5] at H
     exact absurd H zz87
   rw [if_pos c5] at H
   have c5b0 : decide (0 ≤ x5_1) = true:=decide_eq_true c5
   clear c5
   by_cases c6 : x5_1 < (l1.length : Int)
   rotate_left
   · rw [if_neg c6] at H
     exact absurd H zz87
   rw [if_pos c6] at H
   have c6b0 : decide (x5_1 < (l1.length : Int)) = true:=decide_eq_true c6
   clear c6
   by_cases c7 : (!(((rd_T35 l0 x5_1).f0) == ((z1r l1 x5_1).f0)) || (!(((rd_T35 l0 x5_1).f1) == ((z1r l1 x5_1).f1)))) = true
   · rw [if_pos c7] at H
     have c7b0 : (!(((rd_T35 l0 x5_1).f0) == ((z1r l1 x5_1).f0)) || (!(((rd_T35 l0 x5_1).f1) == ((z1r l1 x5_1).f1)))) = true:=c7
     clear c7
     obtain rfl:=Option.some.inj H
     have p101 : 0 ≤ (x5_1 : Int):=of_decide_eq_true zz81
     have q101 : x5_1 < (l0.length : Int):=of_decide_eq_true zz81
     obtain ⟨ad101,e101,hx101_0,hx101_1⟩:=z1Q HR0.out x5_1 p101 q101
     cases e101
     replace p101:=eq_true p101
     replace q101:=eq_true q101
     have p102 : 0 ≤ (x5_1 : Int):=of_decide_eq_true zz81
     have q102 : x5_1 < (l1.length : Int):=of_decide_eq_true zz81
     obtain ⟨ad102,e102,hx102_0,hx102_1⟩:=z3b HR1.out x5_1 p102 q102
     cases e102
     replace p102:=eq_true p102
     replace q102:=eq_true q102
     go_wp2
     repeat (go_quiet (fail);try go_wp2)
     go_ret
     exact ⟨by first|rfl|(simp;done)|(simp [*];done),by repeat (first|exact Drawn0.refl _|apply Drawn0.step)⟩
   rw [if_neg c7] at H
   have c7b0 : (!(((rd_T35 l0 x5_1).f0) == ((z1r l1 x5_1).f0)) || (!(((rd_T35 l0 x5_1).f1) == ((z1r l1 x5_1).f1)))) = false:=by simpa using c7
   clear c7
   have H':=z1.mk H
   clear H
   have p101 : 0 ≤ (x5_1 : Int):=of_decide_eq_true zz81
   have q101 : x5_1 < (l0.length : Int):=of_decide_eq_true zz81
   obtain ⟨ad101,e101,hx101_0,hx101_1⟩:=z1Q HR0.out x5_1 p101 q101
   cases e101
   replace p101:=eq_true p101
   replace q101:=eq_true q101
   have p102 : 0 ≤ (x5_1 : Int):=of_decide_eq_true zz81
   have q102 : x5_1 < (l1.length : Int):=of_decide_eq_true zz81
   obtain ⟨ad102,e102,hx102_0,hx102_1⟩:=z3b HR1.out x5_1 p102 q102
   cases e102
   replace p102:=eq_true p102
   replace q102:=eq_true q102
   go_wp2
   repeat (go_quiet (fail);try go_wp2)
   go_roundg k1
   case measure=>have:=HK1.out;omega
   case rel=>exact ⟨(wrap64 (x5_1 + 1)),zz82,H',⟨by have:=HK1.out;omega⟩,by repeat (first|exact Drawn0.refl _|apply Drawn0.step)⟩
end Go.Proofs.Ytnhbdhgbmjcjdaa.P
namespace Go.Proofs.Ytnhbdhgbmjcjdaa.P
open Go.RowKit Go.Proofs.YtnhbdhgbmjcjdaaW.PrintWords Go.Proofs.YtnhbdhgbmjcjdaaW.PrintLast Go.Proofs.YtnhbdhgbmjcjdaaW.PrintMore
attribute [local go_sem] z10 z12 z1h z1i zQ zR z11 z13   -- for this text's walks alone
set_option linter.unusedVariables false
set_option linter.unusedSimpArgs false
def z1t.f (a0_0 : Int) (a0_1 : Int) (a1_0 : Int) (a1_1 : Int) : Option (Int × Int):=some (Go.bits .xor .u64 a0_0 a1_0,Go.bits .xor .u64 a0_1 a1_1)
set_option maxHeartbeats 8000000 in
set_option maxRecDepth 100000 in
theorem z1t.calls (a0_0 : Int) (a0_1 : Int) (a1_0 : Int) (a1_1 : Int) (r1 : Int) (r2 : Int) (w : World) (h : z1t.f a0_0 a0_1 a1_0 a1_1 = some (r1,r2)) :
 Calls Try.prog 23 #[.agg #[.int .u64 a0_0,.int .u64 a0_1],.agg #[.int .u64 a1_0,.int .u64 a1_1]] w fun e w'=>e = .returned (.agg #[.int .u64 r1,.int .u64 r2]) ∧ Below w.heap.size w w':=by
 have hu35:=Try.underlying35
 have HB:=z1.mk (Below.refl w.heap.size w)
 have H : (some (Go.bits .xor .u64 a0_0 a1_0,Go.bits .xor .u64 a0_1 a1_1)) = some (r1,r2):=h
 clear h
 simp only [Option.some.injEq,Prod.mk.injEq] at H
 obtain ⟨rfl,rfl⟩:=H
 go_enter Try.func23,Try.ntmps23
 go_wp2_with (first|((with_reducible refine zE (N:=2) rfl ?_);refine zC ?hg (N:=2) ?hd (cs:=#[.int .u64 a0_0,.int .u64 a0_1]) (t:=35) ?hr ?_;(case hd=>rfl);(case hg=>rfl);(case hr=>first|(go_simp;done)|(go_simp;rfl));intro gb101 hg w3 hbox hb;have n0_:=z1.mk (ze zz47 hb);have n1_:=z1.mk (hbox);have n2_:=z1.mk ((by rw [hg];exact (zf zz47) : w.heap.size ≤ gb101));have n3_:=z1.mk ((by rw [hg];exact (zf zz47) : w.heap.size ≤ gb101));clear HB;have HB:=n0_;have BK101:=n1_;have GW101:=n2_;have GE101:=n3_;clear n0_ n1_ n2_ n3_;clear hb hbox hg)|((with_reducible refine zE (N:=3) rfl ?_);refine zC ?hg (N:=3) ?hd (cs:=#[.int .u64 a1_0,.int .u64 a1_1]) (t:=35) ?hr ?_;(case hd=>rfl);(case hg=>rfl);(case hr=>first|(go_simp;done)|(go_simp;rfl));intro gb102 hg w4 hbox hb;have n0_:=z1.mk (z9 (g:=gb101) (o:=.cells #[.int .u64 a0_0,.int .u64 a0_1] 35 (0,0)) zz49 hb);have n1_:=z1.mk (ze zz41 hb);have n2_:=z1.mk (hbox);have n3_:=z1.mk ((by rw [hg];exact (zf zz41) : w.heap.size ≤ gb102));have n4_:=z1.mk ((by rw [hg];exact (zf zz41) : w.heap.size ≤ gb102));have n5_:=z1.mk ((by rw [hg];exact Nat.ne_of_lt (zw (g:=gb101) (o:=.cells #[.int .u64 a0_0,.int .u64 a0_1] 35 (0,0)) zz49) : gb101 ≠ gb102));have n6_:=z1.mk ((by rw [hg];exact Nat.ne_of_gt (zw (g:=gb101) (o:=.cells #[.int .u64 a0_0,.int .u64 a0_1] 35 (0,0)) zz49) : gb102 ≠ gb101));clear BK101;clear HB;have BK101:=n0_;have HB:=n1_;have BK102:=n2_;have GW102:=n3_;have GE102:=n4_;have NB101_102:=n5_;have NB102_101:=n6_;clear n0_ n1_ n2_ n3_ n4_ n5_ n6_;clear hb hbox hg)|((with_reducible refine zE (N:=4) rfl ?_);refine zC ?hg (N:=4) ?hd (cs:=#[.int .u64 0,.int .u64 0]) (t:=35) ?hr ?_;(case hd=>rfl);(case hg=>rfl);(case hr=>first|(go_simp;done)|(go_simp;rfl));intro gb103 hg w5 hbox hb;have n0_:=z1.mk (z9 (g:=gb101) (o:=.cells #[.int .u64 a0_0,.int .u64 a0_1] 35 (0,0)) zz49 hb);have n1_:=z1.mk (z9 (g:=gb102) (o:=.cells #[.int .u64 a1_0,.int .u64 a1_1] 35 (0,0)) zz50 hb);have n2_:=z1.mk (ze zz36 hb);have n3_:=z1.mk (hbox);have n4_:=z1.mk ((by rw [hg];exact (zf zz36) : w.heap.size ≤ gb103));have n5_:=z1.mk ((by rw [hg];exact (zf zz36) : w.heap.size ≤ gb103));have n6_:=z1.mk ((by rw [hg];exact Nat.ne_of_lt (zw (g:=gb101) (o:=.cells #[.int .u64 a0_0,.int .u64 a0_1] 35 (0,0)) zz49) : gb101 ≠ gb103));have n7_:=z1.mk ((by rw [hg];exact Nat.ne_of_gt (zw (g:=gb101) (o:=.cells #[.int .u64 a0_0,.int .u64 a0_1] 35 (0,0)) zz49) : gb103 ≠ gb101));have n8_:=z1.mk ((by rw [hg];exact Nat.ne_of_lt (zw (g:=gb102) (o:=.cells #[.int .u64 a1_0,.int .u64 a1_1] 35 (0,0)) zz50) : gb102 ≠ gb103));have n9_:=z1.mk ((by rw [hg];exact Nat.ne_of_gt (zw (g:=gb102) (o:=.cells #[.int .u64 a1_0,.int .u64 a1_1] 35 (0,0)) zz50) : gb103 ≠ gb102));clear BK101;clear BK102;clear HB;have BK101:=n0_;have BK102:=n1_;have HB:=n2_;have BK103:=n3_;have GW103:=n4_;have GE103:=n5_;have NB101_103:=n6_;have NB103_101:=n7_;have NB102_103:=n8_;have NB103_102:=n9_;clear n0_ n1_ n2_ n3_ n4_ n5_ n6_ n7_ n8_ n9_;clear hb hbox hg;have hnb6:=NB101_102.out;have hnc6:=NB102_101.out;have hnb7:=NB101_103.out;have hnc7:=NB103_101.out;have hcz8_0 : w5.cell? ⟨gb101,0,none⟩ = some (.int .u64 a0_0):=(z5 BK101.out 0).trans rfl;have hcz8_1 : w5.cell? ⟨gb101,1,none⟩ = some (.int .u64 a0_1):=(z5 BK101.out 1).trans rfl;have hfz8_0:=z4 BK101.out 0;have hfz8_1:=z4 BK101.out 1;have hnb9:=NB102_103.out;have hnc9:=NB103_102.out;have hcz10_0 : w5.cell? ⟨gb102,0,none⟩ = some (.int .u64 a1_0):=(z5 BK102.out 0).trans rfl;have hcz10_1 : w5.cell? ⟨gb102,1,none⟩ = some (.int .u64 a1_1):=(z5 BK102.out 1).trans rfl;have hfz10_0:=z4 BK102.out 0;have hfz10_1:=z4 BK102.out 1;have hcz11_0 : w5.cell? ⟨gb103,0,none⟩ = some (.int .u64 0):=(z5 BK103.out 0).trans rfl;have hcz11_1 : w5.cell? ⟨gb103,1,none⟩ = some (.int .u64 0):=(z5 BK103.out 1).trans rfl;have hfz11_0:=z4 BK103.out 0;have hfz11_1:=z4 BK103.out 1))
 refine bodyPost_ret (results_cell_row rfl _ _ gb103 35 #[.int .u64 (Go.bits .xor .u64 a0_0 a1_0),.int .u64 (Go.bits .xor .u64 a0_1 a1_1)] (0,0) _ rfl zz1 Try.underlying35 rfl zz84) rfl ?_
 exact ⟨by first|rfl|(simp [zi,zj] <;> rfl)|(simp [*,zi,zj] <;> rfl),by repeat (first|(with_reducible first|exact HB.out|apply zd|apply z3|apply zc|refine za ?_ GE101.out|refine za ?_ GE102.out|refine za ?_ GE103.out)|exact HB.out)⟩
end Go.Proofs.Ytnhbdhgbmjcjdaa.P
namespace Go.Proofs.Ytnhbdhgbmjcjdaa.P
open Go.RowKit Go.Proofs.YtnhbdhgbmjcjdaaW.PrintWords Go.Proofs.YtnhbdhgbmjcjdaaW.PrintLast Go.Proofs.YtnhbdhgbmjcjdaaW.PrintMore
attribute [local go_sem] z10 z12 z1h z1i zQ zR z11 z13   -- for this text's walks alone
set_option linter.unusedVariables false
set_option linter.unusedSimpArgs false
def zX.j0 : Nat → Int → Bool → Option (Int × Int)
 | 0,_,_=>none
 | k + 1,x0,x3=>if x3 = true then (if 0 ≤ x0 then (some (0,shl .u64 1 x0)) else (none)) else (if x0 ≥ 64 then (if x0 < 128 then (if 0 ≤ (wrap64 (x0 - 64)) then (some (shl .u64 1 (wrap64 (x0 - 64)),0)) else (none)) else (some (0,0))) else (some (0,0)))
def zX.f (k : Nat) (a0 : Int) : Option (Int × Int):=if a0 ≥ 0 then (zX.j0 k a0 (decide (a0 < 64))) else (zX.j0 k a0 false)
theorem zX.zY : ∀ k,(∀ y0 y1,LeO (zX.j0 k y0 y1) (zX.j0 (k + 1) y0 y1))
 | 0=>fun _ _ r h=>by simp [zX.j0] at h
 | k + 1=>by
  have ih0:=zX.zY k
  · intro y0 y1
    unfold zX.j0
    repeat' first
    | (with_reducible exact ih0 _ _)
    | (with_reducible exact LeO.refl _)
    | (with_reducible exact LeO.none _)
    | (with_reducible refine LeO.ite ?_ ?_)
    | (with_reducible refine LeO.bind ?_ (fun _=>?_))
    | exact ih0 _ _
    | exact LeO.none _
    | refine LeO.ite ?_ ?_
    | refine LeO.bind ?_ (fun _=>?_)
theorem zX.mono : ∀ a0 k,LeO (zX.f k a0) (zX.f (k + 1) a0):=by
 intro a0 k
 have ih0:=zX.zY k
 unfold zX.f
 repeat' first
  | (with_reducible exact ih0 _ _)
  | (with_reducible exact LeO.refl _)
  | (with_reducible exact LeO.none _)
  | (with_reducible refine LeO.ite ?_ ?_)
  | (with_reducible refine LeO.bind ?_ (fun _=>?_))
  | exact ih0 _ _
  | exact LeO.none _
  | refine LeO.ite ?_ ?_
  | refine LeO.bind ?_ (fun _=>?_)
set_option maxHeartbeats 8000000 in
set_option maxRecDepth 100000 in
theorem zX.calls (k : Nat) (a0 : Int) (r1 : Int) (r2 : Int) (w : World) (h : zX.f k a0 = some (r1,r2)) :
 Calls Try.prog 26 #[.int .i64 a0] w fun e w'=>e = .returned (.agg #[.int .u64 r1,.int .u64 r2]) ∧ Below w.heap.size w w':=by
 have hu35:=Try.underlying35
 have HB:=z1.mk (Below.refl w.heap.size w)
 have H : (if a0 ≥ 0 then (zX.j0 k a0 (decide (a0 < 64))) else (zX.j0 k a0 false)) = some (r1,r2):=h
 clear h
 have HC2:=z1.mk H
 clear H
 go_enter Try.func26,Try.ntmps26
 go_upto_region 1 with (first|((with_reducible refine zE (N:=2) rfl ?_);refine zC ?hg (N:=2) ?hd (cs:=#[.int .u64 0,.int .u64 0]) (t:=35) ?hr ?_;(case hd=>rfl);(case hg=>rfl);(case hr=>first|(go_simp;done)|(go_simp;rfl));intro gb101 hg w3 hbox hb;have n0_:=z1.mk (ze zz47 hb);have n1_:=z1.mk (hbox);have n2_:=z1.mk ((by rw [hg];exact (zf zz47) : w.heap.size ≤ gb101));have n3_:=z1.mk ((by rw [hg];exact (zf zz47) : w.heap.size ≤ gb101));clear HB;have HB:=n0_;have BK101:=n1_;have GW101:=n2_;have GE101:=n3_;clear n0_ n1_ n2_ n3_;clear hb hbox hg))
 (try simp only [Act.put,List.setIfInBounds_toArray,List.set_cons_zero,List.set_cons_succ])
 go_cut [3] (fun v3 wc=>∃ (kq : Nat) (x3_1 : Bool),v3 = .bool x3_1 ∧ z1 (zX.j0 kq a0 x3_1 = some (r1,r2)) ∧ z1 (kq ≤ k) ∧ z1 (wc.heap[gb101]? = some (.cells #[.int .u64 0,.int .u64 0] 35 (0,0))) ∧ z1 (Below w.heap.size w wc))
 case first =>
  have H:=HC2.out
  clear HC2
  by_cases c4 : a0 ≥ 0
  rotate_left
  · rw [if_neg c4] at H
    have c4b0 : decide (0 ≤ a0) = false:=decide_eq_false c4
    clear c4
    (first|rw [c4b0]|(simp only [zH,zI];rw [c4b0])|skip)
    have H':=z1.mk H
    clear H
    go_wp2
    go_meet
    case rel=>exact ⟨_,(false),zz82,H',⟨by first|omega|exact Nat.le_refl _⟩,⟨by (with_reducible repeat (first|refine z8 ?_ _|refine zb ?_|refine z7 ?_ _));exact BK101.out⟩,⟨by repeat (first|(with_reducible first|exact HB.out|apply zd|apply z3|apply zc|refine za ?_ GE101.out)|exact HB.out)⟩⟩
  rw [if_pos c4] at H
  have c4b0 : decide (0 ≤ a0) = true:=decide_eq_true c4
  clear c4
  (first|rw [c4b0]|(simp only [zH,zI];rw [c4b0])|skip)
  have H':=z1.mk H
  clear H
  go_wp2
  go_meet
  case rel=>exact ⟨_,(decide (a0 < 64)),zz82,H',⟨by first|omega|exact Nat.le_refl _⟩,⟨by (with_reducible repeat (first|refine z8 ?_ _|refine zb ?_|refine z7 ?_ _));exact BK101.out⟩,⟨by repeat (first|(with_reducible first|exact HB.out|apply zd|apply z3|apply zc|refine za ?_ GE101.out)|exact HB.out)⟩⟩
 case rest =>
  clear HC2
  (try clear c2);(try clear p2);(try clear c4);(try clear c4b0)
  obtain ⟨kq,x3_1,rfl,HA,HJ1,BK101,HB⟩:=hcut
  cases kq with
  | zero=>exact absurd HA.out (by simp [zX.j0])
  | succ kj1 =>
   have H:=HA.out
   clear HA
   simp only [zX.j0] at H
   by_cases c5 : x3_1 = true
   · subst c5
     have H1 : (if 0 ≤ a0 then (some (0,shl .u64 1 a0)) else (none)) = some (r1,r2):=by rw [if_pos rfl] at H;exact H
     clear H
     have H:=H1
     clear H1
     by_cases c6 : 0 ≤ a0
     rotate_left
     · rw [if_neg c6] at H
       exact absurd H zz87
     rw [if_pos c6] at H
     have c6b0:=eq_true c6
     have c6b1 : decide (0 ≤ a0) = true:=decide_eq_true c6
     clear c6
     obtain ⟨ji7,hji7⟩ : ∃ j_ : Int,(shl .u64 1 a0) = j_:=⟨_,rfl⟩
     replace H : (some (0,ji7)) = some (r1,r2):=by first|(rw [hji7] at H;exact H)|(simp only [hji7] at H ⊢;exact H)
     have hji7_ : (IntKind.u64.wrap (1 * 2 ^ min a0.toNat 64)) = ji7:=hji7
     have hji7z : a0 ≤ 64 → (IntKind.u64.wrap (1 * 2 ^ a0.toNat)) = ji7:=z1I hji7
     have hji7n0 : 0 ≤ ji7:=by rw [← hji7];exact Int.emod_nonneg _ zz85
     have hji7n1 : decide (0 ≤ ji7) = true:=decide_eq_true hji7n0
     replace hji7n0:=eq_true hji7n0
     have hji7u : (IntKind.u64.wrap (2 ^ min a0.toNat 64)) = ji7:=by have h_:=hji7_;rw [Int.one_mul] at h_;exact h_
     have hji7v : a0 ≤ 64 → (IntKind.u64.wrap (2 ^ a0.toNat)) = ji7:=fun hle_=>by have h_:=hji7z hle_;rw [Int.one_mul] at h_;exact h_
     simp only [Option.some.injEq,Prod.mk.injEq] at H
     obtain ⟨rfl,rfl⟩:=H
     have hcz8_0 : wc.cell? ⟨gb101,0,none⟩ = some (.int .u64 0):=(z5 BK101.out 0).trans rfl
     have hcz8_1 : wc.cell? ⟨gb101,1,none⟩ = some (.int .u64 0):=(z5 BK101.out 1).trans rfl
     have hfz8_0:=z4 BK101.out 0
     have hfz8_1:=z4 BK101.out 1
     go_wp2
     refine bodyPost_ret (results_cell_row rfl _ _ gb101 35 #[.int .u64 0,.int .u64 ji7] (0,0) _ rfl zz7 Try.underlying35 rfl zz84) rfl ?_
     exact ⟨by first|rfl|(simp [zi,zj] <;> rfl)|(simp only [← hji7];first|rfl|(simp [zi,zj] <;> rfl))|(simp [*,zi,zj] <;> rfl),by repeat (first|(with_reducible first|exact HB.out|apply zd|apply z3|apply zc|refine za ?_ GE101.out)|exact HB.out)⟩
   replace c5:=Bool.eq_false_iff.mpr c5
   subst c5
   have H1 : (if a0 ≥ 64 then (if a0 < 128 then (if 0 ≤ (wrap64 (a0 - 64)) then (some (shl .u64 1 (wrap64 (a0 - 64)),0)) else (none)) else (some (0,0))) else (some (0,0))) = some (r1,r2):=by rw [if_neg (show ¬ (false = true) by decide)] at H;exact H
   clear H
   have H:=H1
   clear H1
   by_cases c9 : a0 ≥ 64
   rotate_left
   · rw [if_neg c9] at H
     have c9b0 : decide (64 ≤ a0) = false:=decide_eq_false c9
     clear c9
     simp only [Option.some.injEq,Prod.mk.injEq] at H
     obtain ⟨rfl,rfl⟩:=H
     have hcz16_0 : wc.cell? ⟨gb101,0,none⟩ = some (.int .u64 0):=(z5 BK101.out 0).trans rfl
     have hcz16_1 : wc.cell? ⟨gb101,1,none⟩ = some (.int .u64 0):=(z5 BK101.out 1).trans rfl
     have hfz16_0:=z4 BK101.out 0
     have hfz16_1:=z4 BK101.out 1
     go_wp2
     refine bodyPost_ret (results_cell_row rfl _ _ gb101 35 #[.int .u64 0,.int .u64 0] (0,0) _ rfl zz7 Try.underlying35 rfl zz84) rfl ?_
     exact ⟨by first|rfl|(simp [zi,zj] <;> rfl)|(simp [*,zi,zj] <;> rfl),by repeat (first|(with_reducible first|exact HB.out|apply zd|apply z3|apply zc|refine za ?_ GE101.out)|exact HB.out)⟩
   rw [if_pos c9] at H
   have c9b0 : decide (64 ≤ a0) = true:=decide_eq_true c9
   clear c9
   by_cases c10 : a0 < 128
   rotate_left
   · rw [if_neg c10] at H
     have c10b0 : decide (a0 < 128) = false:=decide_eq_false c10
     clear c10
     simp only [Option.some.injEq,Prod.mk.injEq] at H
     obtain ⟨rfl,rfl⟩:=H
     have hcz15_0 : wc.cell? ⟨gb101,0,none⟩ = some (.int .u64 0):=(z5 BK101.out 0).trans rfl
     have hcz15_1 : wc.cell? ⟨gb101,1,none⟩ = some (.int .u64 0):=(z5 BK101.out 1).trans rfl
     have hfz15_0:=z4 BK101.out 0
     have hfz15_1:=z4 BK101.out 1
     go_wp2
     refine bodyPost_ret (results_cell_row rfl _ _ gb101 35 #[.int .u64 0,.int .u64 0] (0,0) _ rfl zz7 Try.underlying35 rfl zz84) rfl ?_
     exact ⟨by first|rfl|(simp [zi,zj] <;> rfl)|(simp [*,zi,zj] <;> rfl),by repeat (first|(with_reducible first|exact HB.out|apply zd|apply z3|apply zc|refine za ?_ GE101.out)|exact HB.out)⟩
   rw [if_pos c10] at H
   have c10b0 : decide (a0 < 128) = true:=decide_eq_true c10
   clear c10
   obtain ⟨ji11,hji11⟩ : ∃ j_ : Int,(wrap64 (a0 - 64)) = j_:=⟨_,rfl⟩
   replace H : (if 0 ≤ (ji11) then (some (shl .u64 1 (ji11),0)) else (none)) = some (r1,r2):=by first|(rw [hji11] at H;exact H)|(simp only [hji11] at H ⊢;exact H)
   have hji11w : (IntKind.i64.wrap (a0 - 64)) = ji11:=(zH _).trans hji11
   by_cases c12 : 0 ≤ (ji11)
   rotate_left
   · rw [if_neg c12] at H
     exact absurd H zz87
   rw [if_pos c12] at H
   have c12b0:=eq_true c12
   have c12b1 : decide (0 ≤ (ji11)) = true:=decide_eq_true c12
   clear c12
   obtain ⟨ji13,hji13⟩ : ∃ j_ : Int,(shl .u64 1 (ji11)) = j_:=⟨_,rfl⟩
   replace H : (some (ji13,0)) = some (r1,r2):=by first|(rw [hji13] at H;exact H)|(simp only [hji13] at H ⊢;exact H)
   have hji13_ : (IntKind.u64.wrap (1 * 2 ^ min (ji11).toNat 64)) = ji13:=hji13
   have hji13z : (ji11) ≤ 64 → (IntKind.u64.wrap (1 * 2 ^ (ji11).toNat)) = ji13:=z1I hji13
   have hji13n0 : 0 ≤ ji13:=by rw [← hji13];exact Int.emod_nonneg _ zz85
   have hji13n1 : decide (0 ≤ ji13) = true:=decide_eq_true hji13n0
   replace hji13n0:=eq_true hji13n0
   have hji13u : (IntKind.u64.wrap (2 ^ min (ji11).toNat 64)) = ji13:=by have h_:=hji13_;rw [Int.one_mul] at h_;exact h_
   have hji13v : (ji11) ≤ 64 → (IntKind.u64.wrap (2 ^ (ji11).toNat)) = ji13:=fun hle_=>by have h_:=hji13z hle_;rw [Int.one_mul] at h_;exact h_
   simp only [Option.some.injEq,Prod.mk.injEq] at H
   obtain ⟨rfl,rfl⟩:=H
   have hcz14_0 : wc.cell? ⟨gb101,0,none⟩ = some (.int .u64 0):=(z5 BK101.out 0).trans rfl
   have hcz14_1 : wc.cell? ⟨gb101,1,none⟩ = some (.int .u64 0):=(z5 BK101.out 1).trans rfl
   have hfz14_0:=z4 BK101.out 0
   have hfz14_1:=z4 BK101.out 1
   go_wp2
   refine bodyPost_ret (results_cell_row rfl _ _ gb101 35 #[.int .u64 ji13,.int .u64 0] (0,0) _ rfl (by (with_reducible repeat (first|refine z8 ?_ _|refine zb ?_|refine z7 ?_ _));refine zT (cs:=#[.int .u64 ji13,.int .u64 0]) ?_ 1 _ rfl;(with_reducible repeat (first|refine z8 ?_ _|refine zb ?_|refine z7 ?_ _));refine zT (cs:=#[.int .u64 0,.int .u64 0]) ?_ 0 _ rfl;(with_reducible repeat (first|refine z8 ?_ _|refine zb ?_|refine z7 ?_ _));exact BK101.out) Try.underlying35 rfl zz84) rfl ?_
   exact ⟨by first|rfl|(simp [zi,zj] <;> rfl)|(simp only [← hji11,← hji13];first|rfl|(simp [zi,zj] <;> rfl))|(simp [*,zi,zj] <;> rfl),by repeat (first|(with_reducible first|exact HB.out|apply zd|apply z3|apply zc|refine za ?_ GE101.out)|exact HB.out)⟩
end Go.Proofs.Ytnhbdhgbmjcjdaa.P
namespace Go.Proofs.Ytnhbdhgbmjcjdaa.P
open Go.RowKit Go.Proofs.YtnhbdhgbmjcjdaaW.PrintWords Go.Proofs.YtnhbdhgbmjcjdaaW.PrintLast Go.Proofs.YtnhbdhgbmjcjdaaW.PrintMore
attribute [local go_sem] z10 z12 z1h z1i zQ zR z11 z13   -- for this text's walks alone
set_option linter.unusedVariables false
set_option linter.unusedSimpArgs false
def zV.j0 : Nat → Int → Int → Option (Int)
 | 0,_,_=>none
 | k + 1,x0,x2=>if x0 ≥ 65536 then (if (x0 / 65536) ≥ 256 then (if 0 ≤ (((x0 / 65536) / 256) % 256) then (if (((x0 / 65536) / 256) % 256) < 256 then (some (wrap64 ((wrap64 ((wrap64 (x2 + 16)) + 8)) + (wrap64 (bt (⟨#[0,1,2,2,3,3,3,3,4,4,4,4,4,4,4,4,5,5,5,5,5,5,5,5,5,5,5,5,5,5,5,5,6,6,6,6,6,6,6,6,6,6,6,6,6,6,6,6,6,6,6,6,6,6,6,6,6,6,6,6,6,6,6,6,7,7,7,7,7,7,7,7,7,7,7,7,7,7,7,7,7,7,7,7,7,7,7,7,7,7,7,7,7,7,7,7,7,7,7,7,7,7,7,7,7,7,7,7,7,7,7,7,7,7,7,7,7,7,7,7,7,7,7,7,7,7,7,7,8,8,8,8,8,8,8,8,8,8,8,8,8,8,8,8,8,8,8,8,8,8,8,8,8,8,8,8,8,8,8,8,8,8,8,8,8,8,8,8,8,8,8,8,8,8,8,8,8,8,8,8,8,8,8,8,8,8,8,8,8,8,8,8,8,8,8,8,8,8,8,8,8,8,8,8,8,8,8,8,8,8,8,8,8,8,8,8,8,8,8,8,8,8,8,8,8,8,8,8,8,8,8,8,8,8,8,8,8,8,8,8,8,8,8,8,8,8,8,8,8,8,8,8,8,8,8,8]⟩ : ByteArray) (((x0 / 65536) / 256) % 256)))))) else (none)) else (none)) else (if 0 ≤ ((x0 / 65536) % 256) then (if ((x0 / 65536) % 256) < 256 then (some (wrap64 ((wrap64 (x2 + 16)) + (wrap64 (bt (⟨#[0,1,2,2,3,3,3,3,4,4,4,4,4,4,4,4,5,5,5,5,5,5,5,5,5,5,5,5,5,5,5,5,6,6,6,6,6,6,6,6,6,6,6,6,6,6,6,6,6,6,6,6,6,6,6,6,6,6,6,6,6,6,6,6,7,7,7,7,7,7,7,7,7,7,7,7,7,7,7,7,7,7,7,7,7,7,7,7,7,7,7,7,7,7,7,7,7,7,7,7,7,7,7,7,7,7,7,7,7,7,7,7,7,7,7,7,7,7,7,7,7,7,7,7,7,7,7,7,8,8,8,8,8,8,8,8,8,8,8,8,8,8,8,8,8,8,8,8,8,8,8,8,8,8,8,8,8,8,8,8,8,8,8,8,8,8,8,8,8,8,8,8,8,8,8,8,8,8,8,8,8,8,8,8,8,8,8,8,8,8,8,8,8,8,8,8,8,8,8,8,8,8,8,8,8,8,8,8,8,8,8,8,8,8,8,8,8,8,8,8,8,8,8,8,8,8,8,8,8,8,8,8,8,8,8,8,8,8,8,8,8,8,8,8,8,8,8,8,8,8,8,8,8,8,8,8]⟩ : ByteArray) ((x0 / 65536) % 256)))))) else (none)) else (none))) else (if x0 ≥ 256 then (if 0 ≤ ((x0 / 256) % 256) then (if ((x0 / 256) % 256) < 256 then (some (wrap64 ((wrap64 (x2 + 8)) + (wrap64 (bt (⟨#[0,1,2,2,3,3,3,3,4,4,4,4,4,4,4,4,5,5,5,5,5,5,5,5,5,5,5,5,5,5,5,5,6,6,6,6,6,6,6,6,6,6,6,6,6,6,6,6,6,6,6,6,6,6,6,6,6,6,6,6,6,6,6,6,7,7,7,7,7,7,7,7,7,7,7,7,7,7,7,7,7,7,7,7,7,7,7,7,7,7,7,7,7,7,7,7,7,7,7,7,7,7,7,7,7,7,7,7,7,7,7,7,7,7,7,7,7,7,7,7,7,7,7,7,7,7,7,7,8,8,8,8,8,8,8,8,8,8,8,8,8,8,8,8,8,8,8,8,8,8,8,8,8,8,8,8,8,8,8,8,8,8,8,8,8,8,8,8,8,8,8,8,8,8,8,8,8,8,8,8,8,8,8,8,8,8,8,8,8,8,8,8,8,8,8,8,8,8,8,8,8,8,8,8,8,8,8,8,8,8,8,8,8,8,8,8,8,8,8,8,8,8,8,8,8,8,8,8,8,8,8,8,8,8,8,8,8,8,8,8,8,8,8,8,8,8,8,8,8,8,8,8,8,8,8,8]⟩ : ByteArray) ((x0 / 256) % 256)))))) else (none)) else (none)) else (if 0 ≤ ((x0) % 256) then (if ((x0) % 256) < 256 then (some (wrap64 (x2 + (wrap64 (bt (⟨#[0,1,2,2,3,3,3,3,4,4,4,4,4,4,4,4,5,5,5,5,5,5,5,5,5,5,5,5,5,5,5,5,6,6,6,6,6,6,6,6,6,6,6,6,6,6,6,6,6,6,6,6,6,6,6,6,6,6,6,6,6,6,6,6,7,7,7,7,7,7,7,7,7,7,7,7,7,7,7,7,7,7,7,7,7,7,7,7,7,7,7,7,7,7,7,7,7,7,7,7,7,7,7,7,7,7,7,7,7,7,7,7,7,7,7,7,7,7,7,7,7,7,7,7,7,7,7,7,8,8,8,8,8,8,8,8,8,8,8,8,8,8,8,8,8,8,8,8,8,8,8,8,8,8,8,8,8,8,8,8,8,8,8,8,8,8,8,8,8,8,8,8,8,8,8,8,8,8,8,8,8,8,8,8,8,8,8,8,8,8,8,8,8,8,8,8,8,8,8,8,8,8,8,8,8,8,8,8,8,8,8,8,8,8,8,8,8,8,8,8,8,8,8,8,8,8,8,8,8,8,8,8,8,8,8,8,8,8,8,8,8,8,8,8,8,8,8,8,8,8,8,8,8,8,8,8]⟩ : ByteArray) ((x0) % 256)))))) else (none)) else (none)))
def zV.f (k : Nat) (a0 : Int) : Option (Int):=if a0 ≥ 4294967296 then (zV.j0 k (a0 / 4294967296) 32) else (zV.j0 k a0 0)
theorem zV.zY : ∀ k,(∀ y0 y1,LeO (zV.j0 k y0 y1) (zV.j0 (k + 1) y0 y1))
 | 0=>fun _ _ r h=>by simp [zV.j0] at h
 | k + 1=>by
  have ih0:=zV.zY k
  · intro y0 y1
    unfold zV.j0
    repeat' first
    | (with_reducible exact ih0 _ _)
    | (with_reducible exact LeO.refl _)
    | (with_reducible exact LeO.none _)
    | (with_reducible refine LeO.ite ?_ ?_)
    | (with_reducible refine LeO.bind ?_ (fun _=>?_))
    | exact ih0 _ _
    | exact LeO.none _
    | refine LeO.ite ?_ ?_
    | refine LeO.bind ?_ (fun _=>?_)
theorem zV.mono : ∀ a0 k,LeO (zV.f k a0) (zV.f (k + 1) a0):=by
 intro a0 k
 have ih0:=zV.zY k
 unfold zV.f
 repeat' first
  | (with_reducible exact ih0 _ _)
  | (with_reducible exact LeO.refl _)
  | (with_reducible exact LeO.none _)
  | (with_reducible refine LeO.ite ?_ ?_)
  | (with_reducible refine LeO.bind ?_ (fun _=>?_))
  | exact ih0 _ _
  | exact LeO.none _
  | refine LeO.ite ?_ ?_
  | refine LeO.bind ?_ (fun _=>?_)
set_option maxHeartbeats 8000000 in
set_option maxRecDepth 100000 in
theorem zV.calls (k : Nat) (a0 : Int) (r : Int) (w : World) (h : zV.f k a0 = some r) :
 Calls Try.prog 69 #[.int .u64 a0] w fun e w'=>e = .returned (.int .i64 r) ∧ Drawn0 w w':=by
 have H : (if a0 ≥ 4294967296 then (zV.j0 k (a0 / 4294967296) 32) else (zV.j0 k a0 0)) = some r:=h
 clear h
 have HC2:=z1.mk H
 clear H
 go_enter Try.func69,Try.ntmps69
 go_upto_if 4 with (fail)
 go_cut [0,2] (fun v0 v2 wc=>∃ (kq : Nat) (x0_1 : Int) (x2_1 : Int),v0 = .int .u64 x0_1 ∧ v2 = .int .i64 x2_1 ∧ z1 (zV.j0 kq x0_1 x2_1 = some r) ∧ z1 (kq ≤ k) ∧ Drawn0 w wc)
 case first =>
  have H:=HC2.out
  clear HC2
  by_cases c3 : a0 ≥ 4294967296
  rotate_left
  · rw [if_neg c3] at H
    have c3b0 : decide (4294967296 ≤ a0) = false:=decide_eq_false c3
    clear c3
    (first|rw [c3b0]|(simp only [zH,zI];rw [c3b0])|skip)
    have H':=z1.mk H
    clear H
    go_wp2
    go_meet
    case rel=>exact ⟨_,(a0),(0),zz82,zz82,H',⟨by first|omega|exact Nat.le_refl _⟩,by repeat (first|exact Drawn0.refl _|apply Drawn0.step)⟩
  rw [if_pos c3] at H
  have c3b0 : decide (4294967296 ≤ a0) = true:=decide_eq_true c3
  clear c3
  (first|rw [c3b0]|(simp only [zH,zI];rw [c3b0])|skip)
  have H':=z1.mk H
  clear H
  go_wp2
  go_meet
  case rel=>exact ⟨_,(a0 / 4294967296),(32),zz82,zz82,H',⟨by first|omega|exact Nat.le_refl _⟩,by repeat (first|exact Drawn0.refl _|apply Drawn0.step)⟩
 case rest =>
  clear HC2
  (try clear p2);(try clear c3);(try clear c3b0)
  obtain ⟨kq,x0_1,x2_1,rfl,rfl,HA,HJ1,⟨mc1,rfl⟩⟩:=hcut
  cases kq with
  | zero=>exact absurd HA.out (by simp [zV.j0])
  | succ kj1 =>
   have H:=HA.out
   clear HA
   simp only [zV.j0] at H
   by_cases c4 : x0_1 ≥ 65536
   · rw [if_pos c4] at H
     have c4b0 : decide (65536 ≤ x0_1) = true:=decide_eq_true c4
     clear c4
     by_cases c5 : (x0_1 / 65536) ≥ 256
     rotate_left
     · rw [if_neg c5] at H
       have c5b0 : decide (256 ≤ (x0_1 / 65536)) = false:=decide_eq_false c5
       clear c5
       obtain ⟨ji10,hji10⟩ : ∃ j_ : Int,((x0_1 / 65536) % 256) = j_:=⟨_,rfl⟩
       replace H : (if 0 ≤ (ji10) then (if (ji10) < 256 then (some (wrap64 ((wrap64 (x2_1 + 16)) + (wrap64 (bt (⟨#[0,1,2,2,3,3,3,3,4,4,4,4,4,4,4,4,5,5,5,5,5,5,5,5,5,5,5,5,5,5,5,5,6,6,6,6,6,6,6,6,6,6,6,6,6,6,6,6,6,6,6,6,6,6,6,6,6,6,6,6,6,6,6,6,7,7,7,7,7,7,7,7,7,7,7,7,7,7,7,7,7,7,7,7,7,7,7,7,7,7,7,7,7,7,7,7,7,7,7,7,7,7,7,7,7,7,7,7,7,7,7,7,7,7,7,7,7,7,7,7,7,7,7,7,7,7,7,7,8,8,8,8,8,8,8,8,8,8,8,8,8,8,8,8,8,8,8,8,8,8,8,8,8,8,8,8,8,8,8,8,8,8,8,8,8,8,8,8,8,8,8,8,8,8,8,8,8,8,8,8,8,8,8,8,8,8,8,8,8,8,8,8,8,8,8,8,8,8,8,8,8,8,8,8,8,8,8,8,8,8,8,8,8,8,8,8,8,8,8,8,8,8,8,8,8,8,8,8,8,8,8,8,8,8,8,8,8,8,8,8,8,8,8,8,8,8,8,8,8,8,8,8,8,8,8,8]⟩ : ByteArray) (ji10)))))) else (none)) else (none)) = some r:=by first|(rw [hji10] at H;exact H)|(simp only [hji10] at H ⊢;exact H)
       by_cases c11 : 0 ≤ (ji10)
       rotate_left
       · rw [if_neg c11] at H
         exact absurd H zz87
       rw [if_pos c11] at H
       have c11b0 : decide (0 ≤ (ji10)) = true:=decide_eq_true c11
       clear c11
       by_cases c12 : (ji10) < 256
       rotate_left
       · rw [if_neg c12] at H
         exact absurd H zz87
       rw [if_pos c12] at H
       have c12b0 : decide ((ji10) < 256) = true:=decide_eq_true c12
       clear c12
       obtain rfl:=Option.some.inj H
       have p13 : 0 ≤ ((ji10) : Int):=of_decide_eq_true zz81
       have q13 : (ji10) < (256 : Int):=of_decide_eq_true zz81
       have hx13:=bt_at (⟨#[0,1,2,2,3,3,3,3,4,4,4,4,4,4,4,4,5,5,5,5,5,5,5,5,5,5,5,5,5,5,5,5,6,6,6,6,6,6,6,6,6,6,6,6,6,6,6,6,6,6,6,6,6,6,6,6,6,6,6,6,6,6,6,6,7,7,7,7,7,7,7,7,7,7,7,7,7,7,7,7,7,7,7,7,7,7,7,7,7,7,7,7,7,7,7,7,7,7,7,7,7,7,7,7,7,7,7,7,7,7,7,7,7,7,7,7,7,7,7,7,7,7,7,7,7,7,7,7,8,8,8,8,8,8,8,8,8,8,8,8,8,8,8,8,8,8,8,8,8,8,8,8,8,8,8,8,8,8,8,8,8,8,8,8,8,8,8,8,8,8,8,8,8,8,8,8,8,8,8,8,8,8,8,8,8,8,8,8,8,8,8,8,8,8,8,8,8,8,8,8,8,8,8,8,8,8,8,8,8,8,8,8,8,8,8,8,8,8,8,8,8,8,8,8,8,8,8,8,8,8,8,8,8,8,8,8,8,8,8,8,8,8,8,8,8,8,8,8,8,8,8,8,8,8,8,8]⟩ : ByteArray) (ji10)
       replace p13:=eq_true p13
       replace q13:=eq_true q13
       go_wp2
       go_ret
       exact ⟨by first|rfl|(simp;done)|(simp only [← hji10] <;> (first|rfl|simp))|(simp [*];done),by repeat (first|exact Drawn0.refl _|apply Drawn0.step)⟩
     rw [if_pos c5] at H
     have c5b0 : decide (256 ≤ (x0_1 / 65536)) = true:=decide_eq_true c5
     clear c5
     obtain ⟨ji6,hji6⟩ : ∃ j_ : Int,(((x0_1 / 65536) / 256) % 256) = j_:=⟨_,rfl⟩
     replace H : (if 0 ≤ (ji6) then (if (ji6) < 256 then (some (wrap64 ((wrap64 ((wrap64 (x2_1 + 16)) + 8)) + (wrap64 (bt (⟨#[0,1,2,2,3,3,3,3,4,4,4,4,4,4,4,4,5,5,5,5,5,5,5,5,5,5,5,5,5,5,5,5,6,6,6,6,6,6,6,6,6,6,6,6,6,6,6,6,6,6,6,6,6,6,6,6,6,6,6,6,6,6,6,6,7,7,7,7,7,7,7,7,7,7,7,7,7,7,7,7,7,7,7,7,7,7,7,7,7,7,7,7,7,7,7,7,7,7,7,7,7,7,7,7,7,7,7,7,7,7,7,7,7,7,7,7,7,7,7,7,7,7,7,7,7,7,7,7,8,8,8,8,8,8,8,8,8,8,8,8,8,8,8,8,8,8,8,8,8,8,8,8,8,8,8,8,8,8,8,8,8,8,8,8,8,8,8,8,8,8,8,8,8,8,8,8,8,8,8,8,8,8,8,8,8,8,8,8,8,8,8,8,8,8,8,8,8,8,8,8,8,8,8,8,8,8,8,8,8,8,8,8,8,8,8,8,8,8,8,8,8,8,8,8,8,8,8,8,8,8,8,8,8,8,8,8,8,8,8,8,8,8,8,8,8,8,8,8,8,8,8,8,8,8,8,8]⟩ : ByteArray) (ji6)))))) else (none)) else (none)) = some r:=by first|(rw [hji6] at H;exact H)|(simp only [hji6] at H ⊢;exact H)
     by_cases c7 : 0 ≤ (ji6)
     rotate_left
     · rw [if_neg c7] at H
       exact absurd H zz87
     rw [if_pos c7] at H
     have c7b0 : decide (0 ≤ (ji6)) = true:=decide_eq_true c7
     clear c7
     by_cases c8 : (ji6) < 256
     rotate_left
     · rw [if_neg c8] at H
       exact absurd H zz87
     rw [if_pos c8] at H
     have c8b0 : decide ((ji6) < 256) = true:=decide_eq_true c8
     clear c8
     obtain rfl:=Option.some.inj H
     have p9 : 0 ≤ ((ji6) : Int):=of_decide_eq_true zz81
     have q9 : (ji6) < (256 : Int):=of_decide_eq_true zz81
     have hx9:=bt_at (⟨#[0,1,2,2,3,3,3,3,4,4,4,4,4,4,4,4,5,5,5,5,5,5,5,5,5,5,5,5,5,5,5,5,6,6,6,6,6,6,6,6,6,6,6,6,6,6,6,6,6,6,6,6,6,6,6,6,6,6,6,6,6,6,6,6,7,7,7,7,7,7,7,7,7,7,7,7,7,7,7,7,7,7,7,7,7,7,7,7,7,7,7,7,7,7,7,7,7,7,7,7,7,7,7,7,7,7,7,7,7,7,7,7,7,7,7,7,7,7,7,7,7,7,7,7,7,7,7,7,8,8,8,8,8,8,8,8,8,8,8,8,8,8,8,8,8,8,8,8,8,8,8,8,8,8,8,8,8,8,8,8,8,8,8,8,8,8,8,8,8,8,8,8,8,8,8,8,8,8,8,8,8,8,8,8,8,8,8,8,8,8,8,8,8,8,8,8,8,8,8,8,8,8,8,8,8,8,8,8,8,8,8,8,8,8,8,8,8,8,8,8,8,8,8,8,8,8,8,8,8,8,8,8,8,8,8,8,8,8,8,8,8,8,8,8,8,8,8,8,8,8,8,8,8,8,8,8]⟩ : ByteArray) (ji6)
     replace p9:=eq_true p9
     replace q9:=eq_true q9
     go_wp2
     go_ret
     exact ⟨by first|rfl|(simp;done)|(simp only [← hji6] <;> (first|rfl|simp))|(simp [*];done),by repeat (first|exact Drawn0.refl _|apply Drawn0.step)⟩
   rw [if_neg c4] at H
   have c4b0 : decide (65536 ≤ x0_1) = false:=decide_eq_false c4
   clear c4
   by_cases c14 : x0_1 ≥ 256
   · rw [if_pos c14] at H
     have c14b0 : decide (256 ≤ x0_1) = true:=decide_eq_true c14
     clear c14
     obtain ⟨ji15,hji15⟩ : ∃ j_ : Int,((x0_1 / 256) % 256) = j_:=⟨_,rfl⟩
     replace H : (if 0 ≤ (ji15) then (if (ji15) < 256 then (some (wrap64 ((wrap64 (x2_1 + 8)) + (wrap64 (bt (⟨#[0,1,2,2,3,3,3,3,4,4,4,4,4,4,4,4,5,5,5,5,5,5,5,5,5,5,5,5,5,5,5,5,6,6,6,6,6,6,6,6,6,6,6,6,6,6,6,6,6,6,6,6,6,6,6,6,6,6,6,6,6,6,6,6,7,7,7,7,7,7,7,7,7,7,7,7,7,7,7,7,7,7,7,7,7,7,7,7,7,7,7,7,7,7,7,7,7,7,7,7,7,7,7,7,7,7,7,7,7,7,7,7,7,7,7,7,7,7,7,7,7,7,7,7,7,7,7,7,8,8,8,8,8,8,8,8,8,8,8,8,8,8,8,8,8,8,8,8,8,8,8,8,8,8,8,8,8,8,8,8,8,8,8,8,8,8,8,8,8,8,8,8,8,8,8,8,8,8,8,8,8,8,8,8,8,8,8,8,8,8,8,8,8,8,8,8,8,8,8,8,8,8,8,8,8,8,8,8,8,8,8,8,8,8,8,8,8,8,8,8,8,8,8,8,8,8,8,8,8,8,8,8,8,8,8,8,8,8,8,8,8,8,8,8,8,8,8,8,8,8,8,8,8,8,8,8]⟩ : ByteArray) (ji15)))))) else (none)) else (none)) = some r:=by first|(rw [hji15] at H;exact H)|(simp only [hji15] at H ⊢;exact H)
     by_cases c16 : 0 ≤ (ji15)
     rotate_left
     · rw [if_neg c16] at H
       exact absurd H zz87
     rw [if_pos c16] at H
     have c16b0 : decide (0 ≤ (ji15)) = true:=decide_eq_true c16
     clear c16
     by_cases c17 : (ji15) < 256
     rotate_left
     · rw [if_neg c17] at H
       exact absurd H zz87
     rw [if_pos c17] at H
     have c17b0 : decide ((ji15) < 256) = true:=decide_eq_true c17
     clear c17
     obtain rfl:=Option.some.inj H
     have p18 : 0 ≤ ((ji15) : Int):=of_decide_eq_true zz81
     have q18 : (ji15) < (256 : Int):=of_decide_eq_true zz81
     have hx18:=bt_at (⟨#[0,1,2,2,3,3,3,3,4,4,4,4,4,4,4,4,5,5,5,5,5,5,5,5,5,5,5,5,5,5,5,5,6,6,6,6,6,6,6,6,6,6,6,6,6,6,6,6,6,6,6,6,6,6,6,6,6,6,6,6,6,6,6,6,7,7,7,7,7,7,7,7,7,7,7,7,7,7,7,7,7,7,7,7,7,7,7,7,7,7,7,7,7,7,7,7,7,7,7,7,7,7,7,7,7,7,7,7,7,7,7,7,7,7,7,7,7,7,7,7,7,7,7,7,7,7,7,7,8,8,8,8,8,8,8,8,8,8,8,8,8,8,8,8,8,8,8,8,8,8,8,8,8,8,8,8,8,8,8,8,8,8,8,8,8,8,8,8,8,8,8,8,8,8,8,8,8,8,8,8,8,8,8,8,8,8,8,8,8,8,8,8,8,8,8,8,8,8,8,8,8,8,8,8,8,8,8,8,8,8,8,8,8,8,8,8,8,8,8,8,8,8,8,8,8,8,8,8,8,8,8,8,8,8,8,8,8,8,8,8,8,8,8,8,8,8,8,8,8,8,8,8,8,8,8,8]⟩ : ByteArray) (ji15)
     replace p18:=eq_true p18
     replace q18:=eq_true q18
     go_wp2
     go_ret
     exact ⟨by first|rfl|(simp;done)|(simp only [← hji15] <;> (first|rfl|simp))|(simp [*];done),by repeat (first|exact Drawn0.refl _|apply Drawn0.step)⟩
   rw [if_neg c14] at H
   have c14b0 : decide (256 ≤ x0_1) = false:=decide_eq_false c14
   clear c14
   obtain ⟨ji19,hji19⟩ : ∃ j_ : Int,((x0_1) % 256) = j_:=⟨_,rfl⟩
   replace H : (if 0 ≤ (ji19) then (if (ji19) < 256 then (some (wrap64 (x2_1 + (wrap64 (bt (⟨#[0,1,2,2,3,3,3,3,4,4,4,4,4,4,4,4,5,5,5,5,5,5,5,5,5,5,5,5,5,5,5,5,6,6,6,6,6,6,6,6,6,6,6,6,6,6,6,6,6,6,6,6,6,6,6,6,6,6,6,6,6,6,6,6,7,7,7,7,7,7,7,7,7,7,7,7,7,7,7,7,7,7,7,7,7,7,7,7,7,7,7,7,7,7,7,7,7,7,7,7,7,7,7,7,7,7,7,7,7,7,7,7,7,7,7,7,7,7,7,7,7,7,7,7,7,7,7,7,8,8,8,8,8,8,8,8,8,8,8,8,8,8,8,8,8,8,8,8,8,8,8,8,8,8,8,8,8,8,8,8,8,8,8,8,8,8,8,8,8,8,8,8,8,8,8,8,8,8,8,8,8,8,8,8,8,8,8,8,8,8,8,8,8,8,8,8,8,8,8,8,8,8,8,8,8,8,8,8,8,8,8,8,8,8,8,8,8,8,8,8,8,8,8,8,8,8,8,8,8,8,8,8,8,8,8,8,8,8,8,8,8,8,8,8,8,8,8,8,8,8,8,8,8,8,8,8]⟩ : ByteArray) (ji19)))))) else (none)) else (none)) = some r:=by first|(rw [hji19] at H;exact H)|(simp only [hji19] at H ⊢;exact H)
   by_cases c20 : 0 ≤ (ji19)
   rotate_left
   · rw [if_neg c20] at H
     exact absurd H zz87
   rw [if_pos c20] at H
   have c20b0 : decide (0 ≤ (ji19)) = true:=decide_eq_true c20
   clear c20
   by_cases c21 : (ji19) < 256
   rotate_left
   · rw [if_neg c21] at H
     exact absurd H zz87
   rw [if_pos c21] at H
   have c21b0 : decide ((ji19) < 256) = true:=decide_eq_true c21
   clear c21
   obtain rfl:=Option.some.inj H
   have p22 : 0 ≤ ((ji19) : Int):=of_decide_eq_true zz81
   have q22 : (ji19) < (256 : Int):=of_decide_eq_true zz81
   have hx22:=bt_at (⟨#[0,1,2,2,3,3,3,3,4,4,4,4,4,4,4,4,5,5,5,5,5,5,5,5,5,5,5,5,5,5,5,5,6,6,6,6,6,6,6,6,6,6,6,6,6,6,6,6,6,6,6,6,6,6,6,6,6,6,6,6,6,6,6,6,7,7,7,7,7,7,7,7,7,7,7,7,7,7,7,7,7,7,7,7,7,7,7,7,7,7,7,7,7,7,7,7,7,7,7,7,7,7,7,7,7,7,7,7,7,7,7,7,7,7,7,7,7,7,7,7,7,7,7,7,7,7,7,7,8,8,8,8,8,8,8,8,8,8,8,8,8,8,8,8,8,8,8,8,8,8,8,8,8,8,8,8,8,8,8,8,8,8,8,8,8,8,8,8,8,8,8,8,8,8,8,8,8,8,8,8,8,8,8,8,8,8,8,8,8,8,8,8,8,8,8,8,8,8,8,8,8,8,8,8,8,8,8,8,8,8,8,8,8,8,8,8,8,8,8,8,8,8,8,8,8,8,8,8,8,8,8,8,8,8,8,8,8,8,8,8,8,8,8,8,8,8,8,8,8,8,8,8,8,8,8,8]⟩ : ByteArray) (ji19)
   replace p22:=eq_true p22
   replace q22:=eq_true q22
   go_wp2
   go_ret
   exact ⟨by first|rfl|(simp;done)|(simp only [← hji19] <;> (first|rfl|simp))|(simp [*];done),by repeat (first|exact Drawn0.refl _|apply Drawn0.step)⟩
end Go.Proofs.Ytnhbdhgbmjcjdaa.P
namespace Go.Proofs.Ytnhbdhgbmjcjdaa.P
open Go.RowKit Go.Proofs.YtnhbdhgbmjcjdaaW.PrintWords Go.Proofs.YtnhbdhgbmjcjdaaW.PrintLast Go.Proofs.YtnhbdhgbmjcjdaaW.PrintMore
attribute [local go_sem] z10 z12 z1h z1i zQ zR z11 z13   -- for this text's walks alone
set_option linter.unusedVariables false
set_option linter.unusedSimpArgs false
def z14.f (k : Nat) (a0_0 : Int) (a0_1 : Int) : Option (Int):=if a0_0 = 0 then ((zV.f k a0_1).bind fun t102=>(some (wrap64 (t102 - 1)))) else ((zV.f k a0_0).bind fun t103=>(some (wrap64 (63 + t103))))
theorem z14.mono : ∀ a0 a1 k,LeO (z14.f k a0 a1) (z14.f (k + 1) a0 a1):=by
 intro a0 a1 k
 unfold z14.f
 repeat' first
  | (with_reducible exact zV.mono _ _)
  | (with_reducible exact LeO.refl _)
  | (with_reducible exact LeO.none _)
  | (with_reducible refine LeO.ite ?_ ?_)
  | (with_reducible refine LeO.bind ?_ (fun _=>?_))
  | exact zV.mono _ _
  | exact LeO.none _
  | refine LeO.ite ?_ ?_
  | refine LeO.bind ?_ (fun _=>?_)
set_option maxHeartbeats 8000000 in
set_option maxRecDepth 100000 in
theorem z14.calls (k : Nat) (a0_0 : Int) (a0_1 : Int) (r : Int) (w : World) (h : z14.f k a0_0 a0_1 = some r) :
 Calls Try.prog 49 #[.agg #[.int .u64 a0_0,.int .u64 a0_1]] w fun e w'=>e = .returned (.int .i64 r) ∧ Below w.heap.size w w':=by
 have hu35:=Try.underlying35
 have HB:=z1.mk (Below.refl w.heap.size w)
 have H : (if a0_0 = 0 then ((zV.f k a0_1).bind fun t102=>(some (wrap64 (t102 - 1)))) else ((zV.f k a0_0).bind fun t103=>(some (wrap64 (63 + t103))))) = some r:=h
 clear h
 by_cases c2 : a0_0 = 0
 rotate_left
 · rw [if_neg c2] at H
   have c2b0 : (a0_0 == 0) = false:=beq_eq_false_iff_ne.mpr c2
   have c2b1 : (a0_0 != 0) = true:=bne_iff_ne.mpr c2
   replace H:=Option.bind_eq_some_iff.mp H
   obtain ⟨t103,A60,H⟩:=H
   replace H : (some (wrap64 (63 + t103))) = some r:=H
   have A6:=z1.mk A60
   clear A60
   obtain rfl:=Option.some.inj H
   go_enter Try.func49,Try.ntmps49
   go_wp2_with (first|((with_reducible refine zE (N:=1) rfl ?_);refine zC ?hg (N:=1) ?hd (cs:=#[.int .u64 a0_0,.int .u64 a0_1]) (t:=35) ?hr ?_;(case hd=>rfl);(case hg=>rfl);(case hr=>first|(go_simp;done)|(go_simp;rfl));intro gb101 hg w7 hbox hb;have n0_:=z1.mk (ze zz47 hb);have n1_:=z1.mk (hbox);have n2_:=z1.mk ((by rw [hg];exact (zf zz47) : w.heap.size ≤ gb101));have n3_:=z1.mk ((by rw [hg];exact (zf zz47) : w.heap.size ≤ gb101));clear HB;have HB:=n0_;have BK101:=n1_;have GW101:=n2_;have GE101:=n3_;clear n0_ n1_ n2_ n3_;clear hb hbox hg;have hcz8_0 : w7.cell? ⟨gb101,0,none⟩ = some (.int .u64 a0_0):=(z5 BK101.out 0).trans rfl;have hcz8_1 : w7.cell? ⟨gb101,1,none⟩ = some (.int .u64 a0_1):=(z5 BK101.out 1).trans rfl;have hfz8_0:=z4 BK101.out 0;have hfz8_1:=z4 BK101.out 1)|((with_reducible refine zo (f:=69) rfl ?_);refine goesL_ (some 8) rfl rfl Try.func69 zz84 rfl #[.int .u64 a0_0] rfl zz45 ?_;(with_reducible refine (zV.calls k a0_0 t103 _ A6.out).mono ?_);rintro e w' ⟨rfl,⟨nd,rfl⟩⟩;refine ⟨_,rfl,?_⟩))
   go_ret
   exact ⟨by first|rfl|(simp [zi,zj] <;> rfl)|(simp [*,zi,zj] <;> rfl),by repeat (first|(with_reducible first|exact HB.out|apply zd|apply z3|apply zc|refine za ?_ GE101.out)|exact HB.out)⟩
 rw [if_pos c2] at H
 have c2b0 : (a0_0 == 0) = true:=beq_iff_eq.mpr c2
 have c2b1 : (a0_0 != 0) = false:=bne_eq_false_iff_eq.mpr c2
 clear c2
 replace H:=Option.bind_eq_some_iff.mp H
 obtain ⟨t102,A30,H⟩:=H
 replace H : (some (wrap64 (t102 - 1))) = some r:=H
 have A3:=z1.mk A30
 clear A30
 obtain rfl:=Option.some.inj H
 go_enter Try.func49,Try.ntmps49
 go_wp2_with (first|((with_reducible refine zE (N:=1) rfl ?_);refine zC ?hg (N:=1) ?hd (cs:=#[.int .u64 a0_0,.int .u64 a0_1]) (t:=35) ?hr ?_;(case hd=>rfl);(case hg=>rfl);(case hr=>first|(go_simp;done)|(go_simp;rfl));intro gb101 hg w4 hbox hb;have n0_:=z1.mk (ze zz47 hb);have n1_:=z1.mk (hbox);have n2_:=z1.mk ((by rw [hg];exact (zf zz47) : w.heap.size ≤ gb101));have n3_:=z1.mk ((by rw [hg];exact (zf zz47) : w.heap.size ≤ gb101));clear HB;have HB:=n0_;have BK101:=n1_;have GW101:=n2_;have GE101:=n3_;clear n0_ n1_ n2_ n3_;clear hb hbox hg;have hcz5_0 : w4.cell? ⟨gb101,0,none⟩ = some (.int .u64 a0_0):=(z5 BK101.out 0).trans rfl;have hcz5_1 : w4.cell? ⟨gb101,1,none⟩ = some (.int .u64 a0_1):=(z5 BK101.out 1).trans rfl;have hfz5_0:=z4 BK101.out 0;have hfz5_1:=z4 BK101.out 1)|((with_reducible refine zo (f:=69) rfl ?_);refine goesL_ (some 12) rfl rfl Try.func69 zz84 rfl #[.int .u64 a0_1] rfl zz45 ?_;(with_reducible refine (zV.calls k a0_1 t102 _ A3.out).mono ?_);rintro e w' ⟨rfl,⟨nd,rfl⟩⟩;refine ⟨_,rfl,?_⟩))
 go_ret
 exact ⟨by first|rfl|(simp [zi,zj] <;> rfl)|(simp [*,zi,zj] <;> rfl),by repeat (first|(with_reducible first|exact HB.out|apply zd|apply z3|apply zc|refine za ?_ GE101.out)|exact HB.out)⟩
end Go.Proofs.Ytnhbdhgbmjcjdaa.P
namespace Go.Proofs.Ytnhbdhgbmjcjdaa.P
open Go.RowKit Go.Proofs.YtnhbdhgbmjcjdaaW.PrintWords Go.Proofs.YtnhbdhgbmjcjdaaW.PrintLast Go.Proofs.YtnhbdhgbmjcjdaaW.PrintMore
attribute [local go_sem] z10 z12 z1h z1i zQ zR z11 z13   -- for this text's walks alone
set_option linter.unusedVariables false
set_option linter.unusedSimpArgs false
def zD.q.f (k : Nat) (a0 : Int) (x0 : Int) (x1 : Int) : Option Bool:=(z14.f k x0 x1).bind fun t=>some (!(decide (t ≥ a0)))
theorem zD.q.mono : ∀ a0 a1 a2 k,LeO (zD.q.f k a0 a1 a2) (zD.q.f (k + 1) a0 a1 a2):=fun a0 a1 a2 k=>LeO.bind (z14.mono _ _ k) (fun _=>LeO.refl _)
set_option maxHeartbeats 800000 in
set_option maxRecDepth 100000 in
theorem zD.clo (k : Nat) (a0 : Int) (x : S35) (g : Nat) (r : Bool) (w : World) (hg : w.heap[g]? = some (.cells #[.int .i64 a0] 3 (0,0))) (h : zD.q.f k a0 x.f0 x.f1 = some r) :
 Calls Try.prog 68 #[.agg #[.int .u64 x.f0,.int .u64 x.f1],.pointer (some ⟨g,0,none⟩)] w fun e w'=>e = .returned (.bool (!r)) ∧ Below w.heap.size w w':=by
 have hu35:=Try.underlying35
 obtain ⟨t,ht,h2⟩:=Option.bind_eq_some_iff.mp h
 obtain rfl:=Option.some.inj h2
 have HB:=z1.mk (Below.refl w.heap.size w)
 have HG:=z1.mk hg
 have A8:=z1.mk ht
 clear hg h h2 ht
 go_enter Try.func68,Try.ntmps68
 try go_wp2_with (first
  | ((with_reducible refine zE (N:=2) rfl ?_);refine zC ?hg (N:=2) ?hd (cs:=#[.int .u64 x.f0,.int .u64 x.f1]) (t:=35) ?hr ?_;(case hd=>rfl);(case hg=>rfl);(case hr=>first|(go_simp;done)|(go_simp;rfl));intro gb hgb w1_ hbox hb;have n0_:=z1.mk (ze HB.out hb);have n1_:=z1.mk (z9 (g:=g) (o:=(.cells #[.int .i64 a0] 3 (0,0))) HG.out hb);have n2_:=z1.mk hbox;clear HB HG hbox hb hgb;have HB:=n0_;have HG:=n1_;have BX:=n2_;clear n0_ n1_ n2_))
 have n0_:=z1.mk (zb HG.out)
 have n1_:=z1.mk (zb BX.out)
 have n2_:=z1.mk (zc HB.out)
 clear HG BX HB
 have HG:=n0_
 have BX:=n1_
 have HB:=n2_
 clear n0_ n1_ n2_
 refine start_ (n:=5) (S:=fun w'=>w'.cell? ⟨gb,0,none⟩ = some (.int .u64 x.f0) ∧ w'.cell? ⟨gb,1,none⟩ = some (.int .u64 x.f1) ∧ w'.cell? ⟨g,0,none⟩ = some (.int .i64 a0)) (ds:=[]) #[false,false,false,false,false] zz84 rfl rfl ⟨(z5 BX.out 0).trans rfl,(z5 BX.out 1).trans rfl,(z5 HG.out 0).trans rfl⟩ (fun hHeld=>?_)
 generalize w1_.drew = w2_ at HG BX HB hHeld ⊢
 refine take_ (i:=0) (N:=some 4) (v:=?_) (a':=?_) #[true,false,false,false,false] rfl rfl zz84 (fun _ _ _ h=>h) (Or.inl ⟨by rfl,?_⟩) hHeld ?_ ?_
 rotate_left
 · rintro w' ⟨s0,s1,s2⟩
   go_simp
   with_reducible rfl
 rotate_left
 · simp only [Act.put,List.setIfInBounds_toArray,List.set_cons_zero,List.set_cons_succ,zH,zI]
   rfl
 refine take_ (i:=2) (N:=some 6) (v:=?_) (a':=?_) #[true,false,true,false,false] rfl rfl zz84 (fun _ _ _ h=>h) (Or.inl ⟨by rfl,?_⟩) hHeld ?_ ?_
 rotate_left
 · rintro w' ⟨s0,s1,s2⟩
   go_simp
   with_reducible rfl
 rotate_left
 · simp only [Act.put,List.setIfInBounds_toArray,List.set_cons_zero,List.set_cons_succ,zH,zI]
   rfl
 refine one_ (i:=1) (N:=some 5) #[true,true,true,false,false] rfl rfl zz84 zz85 (fun K hK=>?_)
 refine goes_ Try.func49 zz84 rfl #[.agg #[.int .u64 x.f0,.int .u64 x.f1]] zz88 rfl rfl zz80 ?_
 with_reducible refine (z14.calls k x.f0 x.f1 t _ A8.out).mono ?_
 rintro e w3_ ⟨rfl,hb0⟩
 have hb:=hb0
 refine ⟨_,rfl,?_⟩
 have n0_:=z1.mk (z9 (g:=g) (o:=(.cells #[.int .i64 a0] 3 (0,0))) HG.out hb)
 have n1_:=z1.mk (z9 (g:=gb) (o:=(.cells #[.int .u64 x.f0,.int .u64 x.f1] 35 (0,0))) BX.out hb)
 have n2_:=z1.mk (ze HB.out hb)
 clear HG BX HB hb hb0
 have HG:=n0_
 have BX:=n1_
 have HB:=n2_
 clear n0_ n1_ n2_
 refine hK.out _ _ ⟨(z5 BX.out 0).trans rfl,(z5 BX.out 1).trans rfl,(z5 HG.out 0).trans rfl⟩ (fun hHeld=>?_)
 clear hK K
 refine norm_ (a':=?_) ?_ ?_
 rotate_left
 · show Act.put _ (some 5) _ = _
   simp only [Act.put,List.setIfInBounds_toArray,List.set_cons_zero,List.set_cons_succ,zH,zI]
   rfl
 refine pure_ (i:=3) (N:=some 7) (v:=?_) (a':=?_) #[true,true,true,true,false] rfl rfl zz84 (fun _ _ _ h=>h) (Or.inl ⟨by rfl,?_⟩) ?_ ?_
 rotate_left
 · intro w'
   go_simp
   with_reducible rfl
 rotate_left
 · simp only [Act.put,List.setIfInBounds_toArray,List.set_cons_zero,List.set_cons_succ,zH,zI]
   rfl
 refine pure_ (i:=4) (N:=some 3) (v:=?_) (a':=?_) #[true,true,true,true,true] rfl rfl zz84 (fun _ _ _ h=>h) (Or.inl ⟨by rfl,?_⟩) ?_ ?_
 rotate_left
 · intro w'
   go_simp
   with_reducible rfl
 rotate_left
 · simp only [Act.put,List.setIfInBounds_toArray,List.set_cons_zero,List.set_cons_succ,zH,zI]
   rfl
 refine done_ zz84 ?_
 try go_wp2
 go_ret
 exact ⟨by simp,HB.out⟩
def zD.all (k : Nat) (a0 : Int) : List S35 → Option Bool
 | []=>some true
 | x :: xs=>(zD.q.f k a0 x.f0 x.f1).bind fun b=>if b = true then zD.all k a0 xs else some false
theorem zD.z56 (a0 : Int) : ∀ (l : List S35) (k : Nat),LeO (zD.all k a0 l) (zD.all (k + 1) a0 l)
 | [],k=>LeO.refl _
 | x :: xs,k=>LeO.bind (zD.q.mono a0 x.f0 x.f1 k) (fun b=>LeO.ite (zD.z56 a0 xs k) (LeO.refl _))
theorem zD.all_drop (k : Nat) (a0 : Int) (l : List S35) (i : Nat) (h : i < l.length) : zD.all k a0 (l.drop i) = (zD.q.f k a0 (rd_T35 l (i : Int)).f0 (rd_T35 l (i : Int)).f1).bind fun b=>if b = true then zD.all k a0 (l.drop (i + 1)) else some false:=by
 rw [List.drop_eq_getElem_cons h]
 have e : rd_T35 l (i : Int) = l[i]:=by unfold rd_T35;rw [Int.toNat_natCast,List.getD_eq_getElem?_getD,List.getElem?_eq_getElem h];rfl
 rw [e];rfl
set_option maxHeartbeats 800000 in
set_option maxRecDepth 100000 in
theorem zD.idx (k : Nat) (a0 : Int) (A_ : Option Addr) (c : Nat) (l : List S35) (g : Nat) (r : Bool) (w : World) (hr : Kd.C k35 w A_ l.length l) (hg : w.heap[g]? = some (.cells #[.int .i64 a0] 3 (0,0))) (h : zD.all k a0 l = some r) :
 Calls Try.prog 83 #[.slice A_ l.length c,.func (.func 68) #[] #[.pointer (some ⟨g,0,none⟩)]] w fun e w'=>(∃ i : Int,e = .returned (.int .i64 i) ∧ decide (i ≥ 0) = !r) ∧ Below w.heap.size w w':=by
 have hu35:=Try.underlying35
 have HB:=z1.mk (Below.refl w.heap.size w)
 have HG:=z1.mk hg
 have HR:=z1.mk hr
 have HA:=z1.mk h
 have HM:=z1.mk (Kd.C_max hr)
 clear hg h hr
 go_enter Try.func83,Try.ntmps83
 go_wp2
 go_loopg [8] l.length (fun kq v8 w'=>∃ (i : Nat),v8 = .int .i64 i ∧ z1 (i + kq = l.length) ∧ z1 (zD.all k a0 (l.drop i) = some r) ∧ z1 (w'.heap[g]? = some (.cells #[.int .i64 a0] 3 (0,0))) ∧ z1 (Below w.heap.size w w'))
 case atStart=>exact ⟨0,rfl,⟨by omega⟩,HA,HG,HB⟩
 case round =>
  obtain ⟨i,rfl,HK,HAi,HGi,HBi⟩:=hrel
  clear HG HB HA
  by_cases hlt : i < l.length
  rotate_left
  · have p0 : decide (i < l.length) = false:=decide_eq_false hlt
    have p1 : decide ((i : Int) < (l.length : Int)) = false:=decide_eq_false zz86
    have hr : r = true:=by
     have h1:=HAi.out
     rw [List.drop_eq_nil_of_le zz86] at h1
     exact (Option.some.inj h1).symm
    clear hlt HAi
    subst hr
    go_wp2
    go_ret
    exact ⟨⟨-1,rfl,by decide⟩,HBi.out⟩
  have hd:=zD.all_drop k a0 l i hlt
  have e1:=HAi.out
  rw [hd] at e1
  obtain ⟨b,hb,e2⟩:=Option.bind_eq_some_iff.mp e1
  clear e1 hd
  have HE:=z1.mk e2
  have HF:=z1.mk hb
  clear e2 hb
  obtain ⟨ad,e205,hx0,hx1⟩:=z1Q HR.out (i : Int) zz86 zz86
  cases e205
  rw [Int.toNat_natCast] at hx0 hx1
  replace hx0:=(HBi.out.cell (World.block_lt_of_cell? w _ hx0)).trans hx0
  replace hx1:=(HBi.out.cell (World.block_lt_of_cell? w _ hx1)).trans hx1
  have p0 : decide (i < l.length) = true:=decide_eq_true hlt
  have p1 : decide ((i : Int) < (l.length : Int)) = true:=decide_eq_true zz86
  have p2 : (0 ≤ (i : Int)) = True:=eq_true zz86
  have p3 : ((i : Int) < (l.length : Int)) = True:=eq_true zz86
  clear hlt
  go_wp2_with fail
  refine (zD.clo k a0 (rd_T35 l (i : Int)) g b _ HGi.out HF.out).mono ?_
  rintro e w1 ⟨rfl,hb1⟩
  have n0_:=z1.mk (ze HBi.out hb1)
  have n1_:=z1.mk (z9 (g:=g) (o:=.cells #[.int .i64 a0] 3 (0,0)) HGi.out hb1)
  clear HBi HGi hb1 hx0 hx1
  cases b with
  | true =>
   rw [if_pos rfl] at HE
   simp only [Bool.not_true]
   go_wp2
   have hi : wrap64 ((i : Int) + 1) = ((i + 1 : Nat) : Int):=by
    have:=HM.out;have:=HK.out;have h9:=of_decide_eq_true p0;unfold wrap64;omega
   go_roundg (l.length - i - 1)
   case measure=>have:=HK.out;have h9:=of_decide_eq_true p0;omega
   case rel=>exact ⟨i + 1,congrArg (Value.int .i64) hi,⟨by have:=HK.out;have h9:=of_decide_eq_true p0;omega⟩,HE,n1_,n0_⟩
  | false =>
   have hr : r = false:=by
    have:=HE.out
    simp at this
    exact this
   subst hr
   simp only [Bool.not_false]
   go_wp2
   go_ret
   exact ⟨⟨(i : Int),rfl,by simp⟩,n0_.out⟩
set_option maxHeartbeats 800000 in
set_option maxRecDepth 100000 in
theorem zD.cont (k : Nat) (a0 : Int) (A_ : Option Addr) (c : Nat) (l : List S35) (g : Nat) (r : Bool) (w : World) (hr : Kd.C k35 w A_ l.length l) (hg : w.heap[g]? = some (.cells #[.int .i64 a0] 3 (0,0))) (h : zD.all k a0 l = some r) :
 Calls Try.prog 67 #[.slice A_ l.length c,.func (.func 68) #[] #[.pointer (some ⟨g,0,none⟩)]] w fun e w'=>e = .returned (.bool (!r)) ∧ Below w.heap.size w w':=by
 have HB:=z1.mk (Below.refl w.heap.size w)
 have HG:=z1.mk hg
 have HR:=z1.mk hr
 have HA:=z1.mk h
 clear hg h hr
 go_enter Try.func67,Try.ntmps67
 go_wp2_with fail
 refine (zD.idx k a0 A_ c l g r _ HR.out HG.out HA.out).mono ?_
 rintro e w1 ⟨⟨i,rfl,hi⟩,hb1⟩
 have hb:=z1.mk hb1
 have hj:=z1.mk hi
 clear hb1 hi
 go_wp2
 go_ret
 exact ⟨by rw [← hj.out];rfl,hb.out⟩
def zD.f (k : Nat) (l0 : List S35) (a1 : Int) : Option Bool:=zD.all k a1 l0
theorem zD.mono : ∀ a0 a1 k,LeO (zD.f k a0 a1) (zD.f (k + 1) a0 a1):=fun l a0 k=>zD.z56 a0 l k
set_option maxHeartbeats 800000 in
set_option maxRecDepth 100000 in
theorem zD.calls (k : Nat) (A0 : Option Addr) (c0 : Nat) (l0 : List S35) (a1 : Int) (r : Bool) (w : World) (hr0 : Kd.C k35 w A0 l0.length l0) (hc0 : l0.length ≤ c0) (h : zD.f k l0 a1 = some r) :
 Calls Try.prog 43 #[.slice A0 l0.length c0,.int .i64 a1] w fun e w'=>e = .returned (.bool r) ∧ Below w.heap.size w w':=by
 have hmf : ∀ (fn : Fn) (first cap : Array Value) (w : World),(Instr.makeFunc fn first cap).run Try.prog w = .ok (.func fn first cap) w:=fun _ _ _ _=>rfl
 have HB:=z1.mk (Below.refl w.heap.size w)
 have HR:=z1.mk hr0
 have HA:=z1.mk (show zD.all k a1 l0 = some r from h)
 clear h hr0
 go_enter Try.func43,Try.ntmps43
 go_wp2_with (first
  | ((with_reducible refine zE (N:=3) rfl ?_);refine zC ?hg (N:=3) ?hd (cs:=#[.int .i64 a1]) (t:=3) ?hr ?_;(case hd=>rfl);(case hg=>rfl);(case hr=>first|(go_simp;done)|(go_simp;rfl));intro gb hgb w1_ hbox hb;have n0_:=z1.mk (ze HB.out hb);have n1_:=z1.mk hbox;have n2_:=z1.mk (Kd.z1A HR.out hb);clear HB HR hbox hb hgb;have HB:=n0_;have HG:=n1_;have HR:=n2_;clear n0_ n1_ n2_)
  | ((with_reducible refine zo (f:=67) rfl ?_);refine goesL_ (some 7) rfl rfl Try.func67 zz84 rfl #[.slice A0 l0.length c0,.func (.func 68) #[] #[.pointer (some ⟨gb,0,none⟩)]] rfl zz80 ?_;(with_reducible refine (zD.cont k a1 _ _ l0 gb r _ HR.out HG.out HA.out).mono ?_);rintro e w2_ ⟨rfl,hb2⟩;refine ⟨_,rfl,?_⟩;have n0_:=z1.mk (ze HB.out hb2);clear HB hb2;have HB:=n0_;clear n0_))
 go_ret
 exact ⟨by simp,HB.out⟩
end Go.Proofs.Ytnhbdhgbmjcjdaa.P
namespace Go.Proofs.Ytnhbdhgbmjcjdaa.P
open Go.RowKit Go.Proofs.YtnhbdhgbmjcjdaaW.PrintWords Go.Proofs.YtnhbdhgbmjcjdaaW.PrintLast Go.Proofs.YtnhbdhgbmjcjdaaW.PrintMore
attribute [local go_sem] z10 z12 z1h z1i zQ zR z11 z13   -- for this text's walks alone
set_option linter.unusedVariables false
set_option linter.unusedSimpArgs false
def z1d.f (k : Nat) (a0_0 : Int) (a0_1 : Int) (a1 : Int) : Option (Bool):=(zX.f k a1).bind fun bt102=>(some ((Go.bits .or .u64 (Go.bits .and .u64 a0_1 bt102.2) (Go.bits .and .u64 a0_0 bt102.1)) != 0))
theorem z1d.mono : ∀ a0 a1 a2 k,LeO (z1d.f k a0 a1 a2) (z1d.f (k + 1) a0 a1 a2):=by
 intro a0 a1 a2 k
 unfold z1d.f
 repeat' first
  | (with_reducible exact zX.mono _ _)
  | (with_reducible exact LeO.refl _)
  | (with_reducible exact LeO.none _)
  | (with_reducible refine LeO.ite ?_ ?_)
  | (with_reducible refine LeO.bind ?_ (fun _=>?_))
  | exact zX.mono _ _
  | exact LeO.none _
  | refine LeO.ite ?_ ?_
  | refine LeO.bind ?_ (fun _=>?_)
set_option maxHeartbeats 8000000 in
set_option maxRecDepth 100000 in
theorem z1d.calls (k : Nat) (a0_0 : Int) (a0_1 : Int) (a1 : Int) (r : Bool) (w : World) (h : z1d.f k a0_0 a0_1 a1 = some r) :
 Calls Try.prog 44 #[.agg #[.int .u64 a0_0,.int .u64 a0_1],.int .i64 a1] w fun e w'=>e = .returned (.bool r) ∧ Below w.heap.size w w':=by
 have hu35:=Try.underlying35
 have HB:=z1.mk (Below.refl w.heap.size w)
 have H : ((zX.f k a1).bind fun bt102=>(some ((Go.bits .or .u64 (Go.bits .and .u64 a0_1 bt102.2) (Go.bits .and .u64 a0_0 bt102.1)) != 0))) = some r:=h
 clear h
 replace H:=Option.bind_eq_some_iff.mp H
 obtain ⟨⟨t102,t103⟩,A30,H⟩:=H
 replace H : (some ((Go.bits .or .u64 (Go.bits .and .u64 a0_1 t103) (Go.bits .and .u64 a0_0 t102)) != 0)) = some r:=H
 have A3:=z1.mk A30
 clear A30
 obtain rfl:=Option.some.inj H
 go_enter Try.func44,Try.ntmps44
 go_wp2_with (first|((with_reducible refine zE (N:=2) rfl ?_);refine zC ?hg (N:=2) ?hd (cs:=#[.int .u64 a0_0,.int .u64 a0_1]) (t:=35) ?hr ?_;(case hd=>rfl);(case hg=>rfl);(case hr=>first|(go_simp;done)|(go_simp;rfl));intro gb101 hg w4 hbox hb;have n0_:=z1.mk (ze zz47 hb);have n1_:=z1.mk (hbox);have n2_:=z1.mk ((by rw [hg];exact (zf zz47) : w.heap.size ≤ gb101));have n3_:=z1.mk ((by rw [hg];exact (zf zz47) : w.heap.size ≤ gb101));clear HB;have HB:=n0_;have BK101:=n1_;have GW101:=n2_;have GE101:=n3_;clear n0_ n1_ n2_ n3_;clear hb hbox hg)|((with_reducible refine zo (f:=26) rfl ?_);refine goesL_ (some 7) rfl rfl Try.func26 zz84 rfl #[.int .i64 a1] rfl zz45 ?_;(with_reducible refine (zX.calls k a1 t102 t103 _ A3.out).mono ?_);rintro e w5 ⟨rfl,hb⟩;refine ⟨_,rfl,?_⟩;have n0_:=z1.mk (z9 (g:=gb101) (o:=.cells #[.int .u64 a0_0,.int .u64 a0_1] 35 (0,0)) zz49 hb);have n1_:=z1.mk (ze zz41 hb);clear BK101;clear HB;have BK101:=n0_;have HB:=n1_;clear n0_ n1_;(try clear hb);(try clear hb2);(try clear hk);(try clear hi))|((with_reducible refine zE (N:=5) rfl ?_);refine zC ?hg (N:=5) ?hd (cs:=#[.int .u64 0,.int .u64 0]) (t:=35) ?hr ?_;(case hd=>rfl);(case hg=>rfl);(case hr=>first|(go_simp;done)|(go_simp;rfl));intro gb104 hg w6 hbox hb;have n0_:=z1.mk (z9 (g:=gb101) (o:=.cells #[.int .u64 a0_0,.int .u64 a0_1] 35 (0,0)) zz49 hb);have n1_:=z1.mk (ze zz41 hb);have n2_:=z1.mk (hbox);have n3_:=z1.mk ((by rw [hg];exact (zf zz41) : w.heap.size ≤ gb104));have n4_:=z1.mk ((by rw [hg];exact (zf zz41) : w.heap.size ≤ gb104));have n5_:=z1.mk ((by rw [hg];exact Nat.ne_of_lt (zw (g:=gb101) (o:=.cells #[.int .u64 a0_0,.int .u64 a0_1] 35 (0,0)) zz49) : gb101 ≠ gb104));have n6_:=z1.mk ((by rw [hg];exact Nat.ne_of_gt (zw (g:=gb101) (o:=.cells #[.int .u64 a0_0,.int .u64 a0_1] 35 (0,0)) zz49) : gb104 ≠ gb101));clear BK101;clear HB;have BK101:=n0_;have HB:=n1_;have BK104:=n2_;have GW104:=n3_;have GE104:=n4_;have NB101_104:=n5_;have NB104_101:=n6_;clear n0_ n1_ n2_ n3_ n4_ n5_ n6_;clear hb hbox hg;have hnb7:=NB104_101.out;have hnc7:=NB101_104.out;have hcz8_0 : w6.cell? ⟨gb104,0,none⟩ = some (.int .u64 0):=(z5 BK104.out 0).trans rfl;have hcz8_1 : w6.cell? ⟨gb104,1,none⟩ = some (.int .u64 0):=(z5 BK104.out 1).trans rfl;have hfz8_0:=z4 BK104.out 0;have hfz8_1:=z4 BK104.out 1;have hcz9_0 : w6.cell? ⟨gb101,0,none⟩ = some (.int .u64 a0_0):=(z5 BK101.out 0).trans rfl;have hcz9_1 : w6.cell? ⟨gb101,1,none⟩ = some (.int .u64 a0_1):=(z5 BK101.out 1).trans rfl;have hfz9_0:=z4 BK101.out 0;have hfz9_1:=z4 BK101.out 1))
 go_ret
 exact ⟨by first|rfl|(simp [zi,zj] <;> rfl)|(simp [*,zi,zj] <;> rfl),by repeat (first|(with_reducible first|exact HB.out|apply zd|apply z3|apply zc|refine za ?_ GE101.out|refine za ?_ GE104.out)|exact HB.out)⟩
end Go.Proofs.Ytnhbdhgbmjcjdaa.P
namespace Go.Proofs.Ytnhbdhgbmjcjdaa.P
open Go.RowKit Go.Proofs.YtnhbdhgbmjcjdaaW.PrintWords Go.Proofs.YtnhbdhgbmjcjdaaW.PrintLast Go.Proofs.YtnhbdhgbmjcjdaaW.PrintMore
attribute [local go_sem] z10 z12 z1h z1i zQ zR z11 z13   -- for this text's walks alone
set_option linter.unusedVariables false
set_option linter.unusedSimpArgs false
mutual
def zz.j0 : Nat → List (S35) → Int → Bool → Option ((List (S35)) × Int)
 | 0,_,_,_=>none
 | k + 1,x0,x1,x10=>if x10 = true then (some (([] : List (S35)),1)) else ((zD.f k x0 x1).bind fun t101=>(if t101 = true then (if 0 ≤ x1 then (if (x1 : Int).toNat ≤ 17592186044416 then (zz.l0 k x1 (List.replicate (x1 : Int).toNat z35) x0 (x0.length : Int) 0) else (none)) else (none)) else (some (([] : List (S35)),6))))
def zz.l0 : Nat → Int → List (S35) → List (S35) → Int → Int → Option ((List (S35)) × Int)
 | 0,_,_,_,_,_=>none
 | k + 1,x1,x6,x29,x30,x31=>if x31 < x30 then (if 0 ≤ x31 then (if x31 < (x29.length : Int) then (zz.l1 k x1 x6 x31 x29 x30 x31 x1 0 ((rd_T35 x29 x31).f0) ((rd_T35 x29 x31).f1)) else (none)) else (none)) else (some (x6,0))
def zz.l1 : Nat → Int → List (S35) → Int → List (S35) → Int → Int → Int → Int → Int → Int → Option ((List (S35)) × Int)
 | 0,_,_,_,_,_,_,_,_,_,_=>none
 | k + 1,x1,x6,x7,x29,x30,x31,x36,x37,x107000,x107001=>if x37 < x36 then ((z1d.f k x107000 x107001 x37).bind fun t107=>(if t107 = true then (if 0 ≤ x37 then (if x37 < (x6.length : Int) then ((zX.f k x7).bind fun bt109=>((z1t.f ((rd_T35 x6 x37).f0) ((rd_T35 x6 x37).f1) bt109.1 bt109.2).bind fun bt111=>(zz.l1 k x1 (x6.set (x37 : Int).toNat (⟨bt111.1,bt111.2⟩ : S35)) x7 x29 x30 x31 x36 (wrap64 (x37 + 1)) x107000 x107001))) else (none)) else (none)) else (zz.l1 k x1 x6 x7 x29 x30 x31 x36 (wrap64 (x37 + 1)) x107000 x107001))) else (zz.l0 k x1 x6 x29 x30 (wrap64 (x31 + 1)))
end
def zz.f (k : Nat) (l0 : List (S35)) (a1 : Int) : Option ((List (S35)) × Int):=if (l0.length : Int) > 128 then (zz.j0 k l0 a1 true) else (if a1 < 0 then (zz.j0 k l0 a1 true) else (zz.j0 k l0 a1 (decide (a1 > 128))))
theorem zz.zY : ∀ k,(∀ y0 y1 y2,LeO (zz.j0 k y0 y1 y2) (zz.j0 (k + 1) y0 y1 y2)) ∧ (∀ y0 y1 y2 y3 y4,LeO (zz.l0 k y0 y1 y2 y3 y4) (zz.l0 (k + 1) y0 y1 y2 y3 y4)) ∧ (∀ y0 y1 y2 y3 y4 y5 y6 y7 y8 y9,LeO (zz.l1 k y0 y1 y2 y3 y4 y5 y6 y7 y8 y9) (zz.l1 (k + 1) y0 y1 y2 y3 y4 y5 y6 y7 y8 y9))
 | 0=>⟨fun _ _ _ r h=>by simp [zz.j0] at h,fun _ _ _ _ _ r h=>by simp [zz.l0] at h,fun _ _ _ _ _ _ _ _ _ _ r h=>by simp [zz.l1] at h⟩
 | k + 1=>by
  obtain ⟨ih0,ih1,ih2⟩:=zz.zY k
  refine ⟨?_,?_,?_⟩
  · intro y0 y1 y2
    unfold zz.j0
    repeat' first
    | (with_reducible exact ih0 _ _ _)
    | (with_reducible exact ih1 _ _ _ _ _)
    | (with_reducible exact ih2 _ _ _ _ _ _ _ _ _ _)
    | (with_reducible exact z1d.mono _ _ _ _)
    | (with_reducible exact zD.mono _ _ _)
    | (with_reducible exact zX.mono _ _)
    | (with_reducible exact LeO.refl _)
    | (with_reducible exact LeO.none _)
    | (with_reducible refine LeO.ite ?_ ?_)
    | (with_reducible refine LeO.bind ?_ (fun _=>?_))
    | exact ih0 _ _ _
    | exact ih1 _ _ _ _ _
    | exact ih2 _ _ _ _ _ _ _ _ _ _
    | exact z1d.mono _ _ _ _
    | exact zD.mono _ _ _
    | exact zX.mono _ _
    | exact LeO.none _
    | refine LeO.ite ?_ ?_
    | refine LeO.bind ?_ (fun _=>?_)
  · intro y0 y1 y2 y3 y4
    unfold zz.l0
    repeat' first
    | (with_reducible exact ih0 _ _ _)
    | (with_reducible exact ih1 _ _ _ _ _)
    | (with_reducible exact ih2 _ _ _ _ _ _ _ _ _ _)
    | (with_reducible exact z1d.mono _ _ _ _)
    | (with_reducible exact zD.mono _ _ _)
    | (with_reducible exact zX.mono _ _)
    | (with_reducible exact LeO.refl _)
    | (with_reducible exact LeO.none _)
    | (with_reducible refine LeO.ite ?_ ?_)
    | (with_reducible refine LeO.bind ?_ (fun _=>?_))
    | exact ih0 _ _ _
    | exact ih1 _ _ _ _ _
    | exact ih2 _ _ _ _ _ _ _ _ _ _
    | exact z1d.mono _ _ _ _
    | exact zD.mono _ _ _
    | exact zX.mono _ _
    | exact LeO.none _
    | refine LeO.ite ?_ ?_
    | refine LeO.bind ?_ (fun _=>?_)
  · intro y0 y1 y2 y3 y4 y5 y6 y7 y8 y9
    unfold zz.l1
    repeat' first
    | (with_reducible exact ih0 _ _ _)
    | (with_reducible exact ih1 _ _ _ _ _)
    | (with_reducible exact ih2 _ _ _ _ _ _ _ _ _ _)
    | (with_reducible exact z1d.mono _ _ _ _)
    | (with_reducible exact zD.mono _ _ _)
    | (with_reducible exact zX.mono _ _)
    | (with_reducible exact LeO.refl _)
    | (with_reducible exact LeO.none _)
    | (with_reducible refine LeO.ite ?_ ?_)
    | (with_reducible refine LeO.bind ?_ (fun _=>?_))
    | exact ih0 _ _ _
    | exact ih1 _ _ _ _ _
    | exact ih2 _ _ _ _ _ _ _ _ _ _
    | exact z1d.mono _ _ _ _
    | exact zD.mono _ _ _
    | exact zX.mono _ _
    | exact LeO.none _
    | refine LeO.ite ?_ ?_
    | refine LeO.bind ?_ (fun _=>?_)
theorem zz.mono : ∀ a0 a1 k,LeO (zz.f k a0 a1) (zz.f (k + 1) a0 a1):=by
 intro a0 a1 k
 obtain ⟨ih0,ih1,ih2⟩:=zz.zY k
 unfold zz.f
 repeat' first
  | (with_reducible exact ih0 _ _ _)
  | (with_reducible exact ih1 _ _ _ _ _)
  | (with_reducible exact ih2 _ _ _ _ _ _ _ _ _ _)
  | (with_reducible exact z1d.mono _ _ _ _)
  | (with_reducible exact zD.mono _ _ _)
  | (with_reducible exact zX.mono _ _)
  | (with_reducible exact LeO.refl _)
  | (with_reducible exact LeO.none _)
  | (with_reducible refine LeO.ite ?_ ?_)
  | (with_reducible refine LeO.bind ?_ (fun _=>?_))
  | exact ih0 _ _ _
  | exact ih1 _ _ _ _ _
  | exact ih2 _ _ _ _ _ _ _ _ _ _
  | exact z1d.mono _ _ _ _
  | exact zD.mono _ _ _
  | exact zX.mono _ _
  | exact LeO.none _
  | refine LeO.ite ?_ ?_
  | refine LeO.bind ?_ (fun _=>?_)
def zz.T13 : Bool × List (List Nat × List Nat):=(true,[([],[]),([],[]),([],[]),([],[]),([2,3],[2,3]),([4],[4]),([],[]),([6],[6]),([5,7,7],[5,7]),([0,1,0,1,2,3,4,5,6,7,8],[0,1]),([9,8,8,0,1,2,3,4,5,6,7,8],[8,9])])
def zz.B13 : List Nat:=[0,0,0,0,12,28,0,64,252,511,1023]
theorem zz.tab13 : rtab .any (opsOf Try.f11 13) = zz.T13:=by kernel_rfl
theorem zz.bits13 : waitsOk zz.T13.2 zz.B13 = true:=by kernel_rfl
set_option maxHeartbeats 8000000 in
set_option maxRecDepth 100000 in
theorem zz.calls (k : Nat) (A0 : Option Addr) (c0 : Nat) (l0 : List (S35)) (a1 : Int) (r1 : List (S35)) (r2 : Int) (w : World) (hr0 : Kd.C k35 w A0 l0.length l0) (hc0 : l0.length ≤ c0) (h : zz.f k l0 a1 = some (r1,r2)) :
 Calls Try.prog 11 #[.slice A0 l0.length c0,.int .i64 a1] w fun e w'=>∃ v0_ : Value,e = .returned (.tuple #[v0_,.int .i64 r2]) ∧ Kd.R k35 35 w' w.heap.size (fun _=>True) v0_ r1 ∧ Below w.heap.size w w':=by
 have hu35:=Try.underlying35
 have HR0:=z1.mk hr0
 have HC0:=z1.mk hc0
 clear hr0 hc0
 have HB:=z1.mk (Below.refl w.heap.size w)
 have H : (if (l0.length : Int) > 128 then (zz.j0 k l0 a1 true) else (if a1 < 0 then (zz.j0 k l0 a1 true) else (zz.j0 k l0 a1 (decide (a1 > 128))))) = some (r1,r2):=h
 clear h
 have HC3:=z1.mk H
 clear H
 go_enter Try.func11,Try.ntmps11
 go_upto_region 1 with (fail)
 go_cut [10] (fun v10 wc=>∃ (kq : Nat) (x10_2 : Bool),v10 = .bool x10_2 ∧ z1 (zz.j0 kq l0 a1 x10_2 = some (r1,r2)) ∧ z1 (kq ≤ k) ∧ z1 (Below w.heap.size w wc))
 case first =>
  have H:=HC3.out
  clear HC3
  by_cases c4 : (l0.length : Int) > 128
  · rw [if_pos c4] at H
    have c4b0 : decide (128 < (l0.length : Int)) = true:=decide_eq_true c4
    have c4b1 : decide (128 < l0.length) = true:=decide_eq_true zz86
    clear c4
    (first|rw [c4b0]|(simp only [zH,zI];rw [c4b0])|skip)
    have H':=z1.mk H
    clear H
    go_wp2
    go_meet
    case rel=>exact ⟨_,(true),zz82,H',⟨by first|omega|exact Nat.le_refl _⟩,⟨by repeat (first|(with_reducible first|exact HB.out|apply zd|apply z3|apply zc)|exact HB.out)⟩⟩
  rw [if_neg c4] at H
  have c4b0 : decide (128 < (l0.length : Int)) = false:=decide_eq_false c4
  have c4b1 : decide (128 < l0.length) = false:=decide_eq_false zz86
  clear c4
  (first|rw [c4b0]|(simp only [zH,zI];rw [c4b0])|skip)
  by_cases c5 : a1 < 0
  rotate_left
  · rw [if_neg c5] at H
    have c5b0 : decide (a1 < 0) = false:=decide_eq_false c5
    clear c5
    have H':=z1.mk H
    clear H
    go_wp2
    go_meet
    case rel=>exact ⟨_,(decide (a1 > 128)),zz82,H',⟨by first|omega|exact Nat.le_refl _⟩,⟨by repeat (first|(with_reducible first|exact HB.out|apply zd|apply z3|apply zc)|exact HB.out)⟩⟩
  rw [if_pos c5] at H
  have c5b0 : decide (a1 < 0) = true:=decide_eq_true c5
  clear c5
  have H':=z1.mk H
  clear H
  go_wp2
  go_meet
  case rel=>exact ⟨_,(true),zz82,H',⟨by first|omega|exact Nat.le_refl _⟩,⟨by repeat (first|(with_reducible first|exact HB.out|apply zd|apply z3|apply zc)|exact HB.out)⟩⟩
 case rest =>
  clear HC3
  (try clear c1);(try clear p2);(try clear c4);(try clear c4b0);(try clear c4b1);(try clear c5);(try clear c5b0)
  obtain ⟨kq,x10_2,rfl,HA,HJ2,HB⟩:=hcut
  cases kq with
  | zero=>exact absurd HA.out (by simp [zz.j0])
  | succ kj2 =>
   have H:=HA.out
   clear HA
   simp only [zz.j0] at H
   by_cases c6 : x10_2 = true
   · subst c6
     have H1 : (some (([] : List (S35)),1)) = some (r1,r2):=by rw [if_pos rfl] at H;exact H
     clear H
     have H:=H1
     clear H1
     simp only [Option.some.injEq,Prod.mk.injEq] at H
     obtain ⟨rfl,rfl⟩:=H
     go_wp2
     go_ret2
     exact ⟨_,by first|rfl|(simp [zi,zj] <;> rfl)|(simp [*,zi,zj] <;> rfl),by first|exact Kd.z2e _ _ _ _ _|exact Kd.z2t _ _ _ _ _|exact Kd.z2w _ _ _ _ _|exact Kd.z2u _ _ _ _ _|exact Kd.z2v _ _ _ _ _,by repeat (first|(with_reducible first|exact HB.out|apply zd|apply z3|apply zc)|exact HB.out)⟩
   replace c6:=Bool.eq_false_iff.mpr c6
   subst c6
   have H1 : ((zD.f kj2 l0 a1).bind fun t101=>(if t101 = true then (if 0 ≤ a1 then (if (a1 : Int).toNat ≤ 17592186044416 then (zz.l0 kj2 a1 (List.replicate (a1 : Int).toNat z35) l0 (l0.length : Int) 0) else (none)) else (none)) else (some (([] : List (S35)),6)))) = some (r1,r2):=by rw [if_neg (show ¬ (false = true) by decide)] at H;exact H
   clear H
   have H:=H1
   clear H1
   replace H:=Option.bind_eq_some_iff.mp H
   obtain ⟨t101,A70,H⟩:=H
   replace H : (if t101 = true then (if 0 ≤ a1 then (if (a1 : Int).toNat ≤ 17592186044416 then (zz.l0 kj2 a1 (List.replicate (a1 : Int).toNat z35) l0 (l0.length : Int) 0) else (none)) else (none)) else (some (([] : List (S35)),6))) = some (r1,r2):=H
   have A7:=z1.mk A70
   clear A70
   by_cases c8 : t101 = true
   rotate_left
   · replace c8:=Bool.eq_false_iff.mpr c8
     subst c8
     have H1 : (some (([] : List (S35)),6)) = some (r1,r2):=by rw [if_neg (show ¬ (false = true) by decide)] at H;exact H
     clear H
     have H:=H1
     clear H1
     simp only [Option.some.injEq,Prod.mk.injEq] at H
     obtain ⟨rfl,rfl⟩:=H
     go_wp2_with (first|((with_reducible refine zo (f:=43) rfl ?_);refine goesL_ (some 25) rfl rfl Try.func43 zz84 rfl #[.slice A0 l0.length c0,.int .i64 a1] rfl zz45 ?_;(with_reducible refine (zD.calls kj2 _ _ l0 a1 false _ ?side1 ?side2 A7.out).mono ?_);(case side1=>repeat (first|exact (Kd.z1A HR0.out HB.out)|(with_reducible refine Kd.z15 ?_ _)|(with_reducible refine Kd.z16 ?_ _)|(with_reducible refine Kd.z1m ?_)));(case side2=>exact HC0.out);rintro e w36 ⟨rfl,hb⟩;refine ⟨_,rfl,?_⟩;have n0_:=z1.mk (ze zz47 hb);clear HB;have HB:=n0_;clear n0_;(try clear hb);(try clear hb2);(try clear hk);(try clear hi)))
     go_ret2
     exact ⟨_,by first|rfl|(simp [zi,zj] <;> rfl)|(simp [*,zi,zj] <;> rfl),by first|exact Kd.z2e _ _ _ _ _|exact Kd.z2t _ _ _ _ _|exact Kd.z2w _ _ _ _ _|exact Kd.z2u _ _ _ _ _|exact Kd.z2v _ _ _ _ _,by repeat (first|(with_reducible first|exact HB.out|apply zd|apply z3|apply zc)|exact HB.out)⟩
   subst c8
   have H1 : (if 0 ≤ a1 then (if (a1 : Int).toNat ≤ 17592186044416 then (zz.l0 kj2 a1 (List.replicate (a1 : Int).toNat z35) l0 (l0.length : Int) 0) else (none)) else (none)) = some (r1,r2):=by rw [if_pos rfl] at H;exact H
   clear H
   have H:=H1
   clear H1
   by_cases c9 : 0 ≤ a1
   rotate_left
   · rw [if_neg c9] at H
     exact absurd H zz87
   rw [if_pos c9] at H
   have c9b0:=eq_true c9
   have c9b1 : decide (0 ≤ a1) = true:=decide_eq_true c9
   clear c9
   by_cases c10 : (a1 : Int).toNat ≤ 17592186044416
   rotate_left
   · rw [if_neg c10] at H
     exact absurd H zz87
   rw [if_pos c10] at H
   have c10b0:=eq_true c10
   have c10b1 : decide ((a1 : Int).toNat ≤ 17592186044416) = true:=decide_eq_true c10
   clear c10
   obtain ⟨y102,hy102⟩ : ∃ y_ : List (S35),y_ = (List.replicate (a1 : Int).toNat z35):=⟨_,rfl⟩
   replace H : (zz.l0 kj2 a1 y102 l0 (l0.length : Int) 0) = some (r1,r2):=by first|(rw [hy102];with_reducible exact H)|(have H2_:=(Option.bind_some _ _).symm.trans H;rw [hy102];with_reducible exact H2_)|(have H2_:=(Option.bind_some _ _).symm.trans H;with_reducible exact H2_)|with_reducible exact H|(rw [hy102];exact H)|exact H
   have Ny102:=z1.mk hy102
   clear hy102
   have H':=z1.mk H
   clear H
   go_wp2_with (first|((with_reducible refine zo (f:=43) rfl ?_);refine goesL_ (some 25) rfl rfl Try.func43 zz84 rfl #[.slice A0 l0.length c0,.int .i64 a1] rfl zz45 ?_;(with_reducible refine (zD.calls kj2 _ _ l0 a1 true _ ?side1 ?side2 A7.out).mono ?_);(case side1=>repeat (first|exact (Kd.z1A HR0.out HB.out)|(with_reducible refine Kd.z15 ?_ _)|(with_reducible refine Kd.z16 ?_ _)|(with_reducible refine Kd.z1m ?_)));(case side2=>exact HC0.out);rintro e w11 ⟨rfl,hb⟩;refine ⟨_,rfl,?_⟩;have n0_:=z1.mk (ze zz47 hb);clear HB;have HB:=n0_;clear n0_;(try clear hb);(try clear hb2);(try clear hk);(try clear hi))|((with_reducible refine zE (N:=28) rfl ?_);refine Kd.R_make k35 _ 35 rfl (N:=28) rfl 22 _ _ rfl a1 rfl rfl Try.underlying22 (.agg #[(.int .u64 0),(.int .u64 0)]) 16 info35 rfl zz85 zz86 z35 (ok:=fun _=>True) (okp:=fun _=>True) (z2g _ _ _ z35 ) (fun _ hk=>hk) trivial (of_decide_eq_true zz81) (Nat.le_trans (Nat.mul_le_mul_right _ (of_decide_eq_true zz81 : a1.toNat ≤ 17592186044416)) zz86) (Below.refl _ _) (Nat.le_refl _) ?_;intro v103 w12 ho13 hb hg_ hnew_;clear hg_ hnew_;(first|rw [← Ny102.out] at ho13|(simp only [Int.reduceToNat] at ho13;rw [← Ny102.out] at ho13));have n0_:=z1.mk (Kd.z1q ho13 (zf zz47));have n1_:=z1.mk (ze zz47 hb);clear HB;have HO104:=n0_;have HB:=n1_;clear n0_ n1_;clear hb ho13))
   go_loopg [31] kj2 (fun kq v31 w'=>∃ (x6_2 : List (S35)) (x31_2 : Int),v31 = .int .i64 x31_2 ∧ z1 (zz.l0 kq a1 x6_2 l0 (l0.length : Int) x31_2 = some (r1,r2)) ∧ z1 (kq ≤ kj2) ∧ z1 (Kd.R k35 35 w' w.heap.size (fun _=>True) v103 x6_2) ∧ z1 (Below w.heap.size w w'))
   case atStart=>exact ⟨(y102),(0),zz82,H',⟨Nat.le_refl _⟩,⟨by (with_reducible repeat (first|apply Kd.zL|apply Kd.zM|apply Kd.zS));exact HO104.out⟩,⟨by repeat (first|(with_reducible first|exact HB.out|apply zd|apply z3|apply zc)|exact HB.out)⟩⟩
   case round =>
    clear H'
    (try clear c1);(try clear p2);(try clear c4);(try clear c4b0);(try clear c4b1);(try clear c5);(try clear c5b0);(try clear c6);(try clear c8);(try clear c9);(try clear c9b0);(try clear c9b1);(try clear c10);(try clear c10b0);(try clear c10b1);(try clear c11);(try clear p2)
    obtain ⟨x6_2,x31_2,rfl,HA,HK2,HO_6,HB⟩:=hrel
    cases gk with
    | zero=>exact absurd HA.out (by simp [zz.l0])
    | succ k2 =>
     have H:=HA.out
     clear HA
     simp only [zz.l0] at H
     by_cases c14 : x31_2 < (l0.length : Int)
     rotate_left
     · rw [if_neg c14] at H
       have c14b0 : decide (x31_2 < (l0.length : Int)) = false:=decide_eq_false c14
       clear c14
       simp only [Option.some.injEq,Prod.mk.injEq] at H
       obtain ⟨rfl,rfl⟩:=H
       go_wp2
       go_ret2
       exact ⟨_,by first|rfl|(simp [zi,zj] <;> rfl)|(simp [*,zi,zj] <;> rfl),by (with_reducible repeat (first|apply Kd.zL|apply Kd.zM|apply Kd.zS));exact HO_6.out,by repeat (first|(with_reducible first|exact HB.out|apply zd|apply z3|apply zc)|exact HB.out)⟩
     rw [if_pos c14] at H
     have c14b0 : decide (x31_2 < (l0.length : Int)) = true:=decide_eq_true c14
     clear c14
     by_cases c15 : 0 ≤ x31_2
     rotate_left
     · rw [if_neg c15] at H
       exact absurd H zz87
     rw [if_pos c15] at H
     have c15b0 : decide (0 ≤ x31_2) = true:=decide_eq_true c15
     clear c15
     by_cases c16 : x31_2 < (l0.length : Int)
     rotate_left
     · rw [if_neg c16] at H
       exact absurd H zz87
     rw [if_pos c16] at H
     have c16b0 : decide (x31_2 < (l0.length : Int)) = true:=decide_eq_true c16
     clear c16
     have H':=z1.mk H
     clear H
     have p105 : 0 ≤ (x31_2 : Int):=of_decide_eq_true zz81
     have q105 : x31_2 < (l0.length : Int):=of_decide_eq_true zz81
     obtain ⟨ad105,e105,hx105_0,hx105_1⟩:=z1Q HR0.out x31_2 p105 q105
     cases e105
     replace hx105_0:=(HB.out.cell (World.block_lt_of_cell? w _ hx105_0)).trans hx105_0
     replace hx105_1:=(HB.out.cell (World.block_lt_of_cell? w _ hx105_1)).trans hx105_1
     replace p105:=eq_true p105
     replace q105:=eq_true q105
     go_wp2_with (first|((with_reducible refine zE (N:=8) rfl ?_);refine zC ?hg (N:=8) ?hd (cs:=#[.int .u64 0,.int .u64 0]) (t:=35) ?hr ?_;(case hd=>rfl);(case hg=>rfl);(case hr=>first|(go_simp;done)|(go_simp;rfl));intro gb106 hg w17 hbox hb;have n0_:=z1.mk (Kd.zs (Kd.z1B zz74 gb106 (Nat.le_of_eq hg.symm)) hb);have n1_:=z1.mk (ze zz47 hb);have n2_:=z1.mk (hbox);have n3_:=z1.mk ((by rw [hg];exact (zf zz47) : w.heap.size ≤ gb106));have n4_:=z1.mk ((by rw [hg];exact (zf zz47) : w.heap.size ≤ gb106));clear HO_6;clear HB;have HO_6:=n0_;have HB:=n1_;have BK106:=n2_;have GW106:=n3_;have GE106:=n4_;clear n0_ n1_ n2_ n3_ n4_;clear hb hbox hg;have hcz18_0 : w17.cell? ⟨gb106,0,none⟩ = some (.int .u64 0):=(z5 BK106.out 0).trans rfl;have hcz18_1 : w17.cell? ⟨gb106,1,none⟩ = some (.int .u64 0):=(z5 BK106.out 1).trans rfl;have hfz18_0:=z4 BK106.out 0;have hfz18_1:=z4 BK106.out 1))
     go_loopg [37] k2 (fun kq v37 w'=>∃ (x6_3 : List (S35)) (x37_3 : Int) (x107000_3 : Int) (x107001_3 : Int),v37 = .int .i64 x37_3 ∧ z1 (zz.l1 kq a1 x6_3 x31_2 l0 (l0.length : Int) x31_2 a1 x37_3 x107000_3 x107001_3 = some (r1,r2)) ∧ z1 (kq ≤ k2) ∧ z1 (Kd.R k35 35 w' w.heap.size (fun k_=>k_ ≠ gb106) v103 x6_3) ∧ z1 (w'.heap[gb106]? = some (.cells #[.int .u64 x107000_3,.int .u64 x107001_3] 35 (0,0))) ∧ z1 (Below w.heap.size w w'))
     case atStart=>exact ⟨(x6_2),(0),((rd_T35 l0 x31_2).f0),((rd_T35 l0 x31_2).f1),zz82,H',⟨Nat.le_refl _⟩,⟨by (with_reducible repeat (first|apply Kd.zL|apply Kd.zM|apply Kd.zS));exact Kd.z1j (Kd.z1O (p:=⟨gb106,1,none⟩) (Kd.z1O (p:=⟨gb106,0,none⟩) (Kd.z1j HO_6.out (fun k_ hk=>(⟨hk,hk.2⟩ : _ ∧ k_ ≠ gb106))) (fun _ hk=>hk.2) (.int .u64 ((rd_T35 l0 x31_2).f0))) (fun _ hk=>hk.2) (.int .u64 ((rd_T35 l0 x31_2).f1))) (fun _ hk=>hk.1.2)⟩,⟨by (with_reducible repeat (first|refine z8 ?_ _|refine zb ?_|refine z7 ?_ _));refine zT (cs:=#[.int .u64 ((rd_T35 l0 x31_2).f0),.int .u64 0]) ?_ 1 _ rfl;(with_reducible repeat (first|refine z8 ?_ _|refine zb ?_|refine z7 ?_ _));refine zT (cs:=#[.int .u64 0,.int .u64 0]) ?_ 0 _ rfl;(with_reducible repeat (first|refine z8 ?_ _|refine zb ?_|refine z7 ?_ _));exact BK106.out⟩,⟨by repeat (first|(with_reducible first|exact HB.out|apply zd|apply z3|apply zc|refine za ?_ GE106.out)|exact HB.out)⟩⟩
     case round =>
      clear H'
      (try clear c1);(try clear p1);(try clear q1);(try clear hx1);(try clear p2);(try clear c4);(try clear c4b0);(try clear c4b1);(try clear c5);(try clear c5b0);(try clear c6);(try clear c8);(try clear c9);(try clear c9b0);(try clear c9b1);(try clear c10);(try clear c10b0);(try clear c10b1);(try clear p10);(try clear q10);(try clear hx10);(try clear c11);(try clear c14);(try clear c14b0);(try clear c15);(try clear c15b0);(try clear c16);(try clear c16b0);(try clear hcz18_0);(try clear hcz18_1);(try clear hfz18_0);(try clear hfz18_1);(try clear hx105_0);(try clear hx105_1);(try clear p105);(try clear p2);(try clear q105)
      obtain ⟨x6_3,x37_3,x107000_3,x107001_3,rfl,HA,HK3,HO_6,BK106,HB⟩:=hrel
      cases gk with
      | zero=>exact absurd HA.out (by simp [zz.l1])
      | succ k3 =>
       have H:=HA.out
       clear HA
       simp only [zz.l1] at H
       by_cases c19 : x37_3 < a1
       rotate_left
       · rw [if_neg c19] at H
         have c19b0 : decide (x37_3 < a1) = false:=decide_eq_false c19
         clear c19
         have H':=z1.mk H
         clear H
         go_wp2
         go_roundg k3
         case measure=>have:=HJ2.out;have:=HK2.out;have:=HK3.out;omega
         case rel=>exact ⟨(x6_3),(wrap64 (x31_2 + 1)),zz82,H',⟨by have:=HJ2.out;have:=HK2.out;have:=HK3.out;omega⟩,⟨by (with_reducible repeat (first|apply Kd.zL|apply Kd.zM|apply Kd.zS));exact Kd.z1j HO_6.out (fun _ hk=>trivial)⟩,⟨by repeat (first|(with_reducible first|exact HB.out|apply zd|apply z3|apply zc|refine za ?_ GE106.out)|exact HB.out)⟩⟩
       rw [if_pos c19] at H
       have c19b0 : decide (x37_3 < a1) = true:=decide_eq_true c19
       clear c19
       replace H:=Option.bind_eq_some_iff.mp H
       obtain ⟨t107,A200,H⟩:=H
       replace H : (if t107 = true then (if 0 ≤ x37_3 then (if x37_3 < (x6_3.length : Int) then ((zX.f k3 x31_2).bind fun bt109=>((z1t.f ((rd_T35 x6_3 x37_3).f0) ((rd_T35 x6_3 x37_3).f1) bt109.1 bt109.2).bind fun bt111=>(zz.l1 k3 a1 (x6_3.set (x37_3 : Int).toNat (⟨bt111.1,bt111.2⟩ : S35)) x31_2 l0 (l0.length : Int) x31_2 a1 (wrap64 (x37_3 + 1)) x107000_3 x107001_3))) else (none)) else (none)) else (zz.l1 k3 a1 x6_3 x31_2 l0 (l0.length : Int) x31_2 a1 (wrap64 (x37_3 + 1)) x107000_3 x107001_3)) = some (r1,r2):=H
       have A20:=z1.mk A200
       clear A200
       by_cases c21 : t107 = true
       rotate_left
       · replace c21:=Bool.eq_false_iff.mpr c21
         subst c21
         have H1 : (zz.l1 k3 a1 x6_3 x31_2 l0 (l0.length : Int) x31_2 a1 (wrap64 (x37_3 + 1)) x107000_3 x107001_3) = some (r1,r2):=by rw [if_neg (show ¬ (false = true) by decide)] at H;exact H
         clear H
         have H:=H1
         clear H1
         have H':=z1.mk H
         clear H
         have hcz34_0 : wr.cell? ⟨gb106,0,none⟩ = some (.int .u64 x107000_3):=(z5 BK106.out 0).trans rfl
         have hcz34_1 : wr.cell? ⟨gb106,1,none⟩ = some (.int .u64 x107001_3):=(z5 BK106.out 1).trans rfl
         have hfz34_0:=z4 BK106.out 0
         have hfz34_1:=z4 BK106.out 1
         go_wp2_with (first|((with_reducible refine zo (f:=44) rfl ?_);refine goesL_ (some 42) rfl rfl Try.func44 zz84 rfl #[.agg #[.int .u64 x107000_3,.int .u64 x107001_3],.int .i64 x37_3] rfl zz45 ?_;(with_reducible refine (z1d.calls k3 x107000_3 x107001_3 x37_3 false _ A20.out).mono ?_);rintro e w35 ⟨rfl,hb⟩;refine ⟨_,rfl,?_⟩;have n0_:=z1.mk (Kd.zs zz74 hb);have n1_:=z1.mk (z9 (g:=gb106) (o:=.cells #[.int .u64 x107000_3,.int .u64 x107001_3] 35 (0,0)) zz51 hb);have n2_:=z1.mk (ze zz42 hb);clear HO_6;clear BK106;clear HB;have HO_6:=n0_;have BK106:=n1_;have HB:=n2_;clear n0_ n1_ n2_;(try clear hb);(try clear hb2);(try clear hk);(try clear hi)))
         go_roundg k3
         case measure=>have:=HJ2.out;have:=HK2.out;have:=HK3.out;omega
         case rel=>exact ⟨(x6_3),(wrap64 (x37_3 + 1)),(x107000_3),(x107001_3),zz82,H',⟨by have:=HJ2.out;have:=HK2.out;have:=HK3.out;omega⟩,⟨by (with_reducible repeat (first|apply Kd.zL|apply Kd.zM|apply Kd.zS));exact HO_6.out⟩,⟨by (with_reducible repeat (first|refine z8 ?_ _|refine zb ?_|refine z7 ?_ _));exact BK106.out⟩,⟨by repeat (first|(with_reducible first|exact HB.out|apply zd|apply z3|apply zc|refine za ?_ GE106.out)|exact HB.out)⟩⟩
       subst c21
       have H1 : (if 0 ≤ x37_3 then (if x37_3 < (x6_3.length : Int) then ((zX.f k3 x31_2).bind fun bt109=>((z1t.f ((rd_T35 x6_3 x37_3).f0) ((rd_T35 x6_3 x37_3).f1) bt109.1 bt109.2).bind fun bt111=>(zz.l1 k3 a1 (x6_3.set (x37_3 : Int).toNat (⟨bt111.1,bt111.2⟩ : S35)) x31_2 l0 (l0.length : Int) x31_2 a1 (wrap64 (x37_3 + 1)) x107000_3 x107001_3))) else (none)) else (none)) = some (r1,r2):=by rw [if_pos rfl] at H;exact H
       clear H
       have H:=H1
       clear H1
       by_cases c22 : 0 ≤ x37_3
       rotate_left
       · rw [if_neg c22] at H
         exact absurd H zz87
       rw [if_pos c22] at H
       have c22b0 : decide (0 ≤ x37_3) = true:=decide_eq_true c22
       clear c22
       by_cases c23 : x37_3 < (x6_3.length : Int)
       rotate_left
       · rw [if_neg c23] at H
         exact absurd H zz87
       rw [if_pos c23] at H
       have c23b0 : decide (x37_3 < (x6_3.length : Int)) = true:=decide_eq_true c23
       clear c23
       replace H:=Option.bind_eq_some_iff.mp H
       obtain ⟨⟨t109,t110⟩,A240,H⟩:=H
       replace H : ((z1t.f ((rd_T35 x6_3 x37_3).f0) ((rd_T35 x6_3 x37_3).f1) t109 t110).bind fun bt111=>(zz.l1 k3 a1 (x6_3.set (x37_3 : Int).toNat (⟨bt111.1,bt111.2⟩ : S35)) x31_2 l0 (l0.length : Int) x31_2 a1 (wrap64 (x37_3 + 1)) x107000_3 x107001_3)) = some (r1,r2):=H
       have A24:=z1.mk A240
       clear A240
       replace H:=Option.bind_eq_some_iff.mp H
       obtain ⟨⟨t111,t112⟩,A250,H⟩:=H
       replace H : (zz.l1 k3 a1 (x6_3.set (x37_3 : Int).toNat (⟨t111,t112⟩ : S35)) x31_2 l0 (l0.length : Int) x31_2 a1 (wrap64 (x37_3 + 1)) x107000_3 x107001_3) = some (r1,r2):=H
       have A25:=z1.mk A250
       clear A250
       obtain ⟨y113,hy113⟩ : ∃ y_ : List (S35),y_ = (x6_3.set (x37_3 : Int).toNat (⟨t111,t112⟩ : S35)):=⟨_,rfl⟩
       replace H : (zz.l1 k3 a1 y113 x31_2 l0 (l0.length : Int) x31_2 a1 (wrap64 (x37_3 + 1)) x107000_3 x107001_3) = some (r1,r2):=by first|(rw [hy113];with_reducible exact H)|(have H2_:=(Option.bind_some _ _).symm.trans H;rw [hy113];with_reducible exact H2_)|(have H2_:=(Option.bind_some _ _).symm.trans H;with_reducible exact H2_)|with_reducible exact H|(rw [hy113];exact H)|exact H
       have Ny113:=z1.mk hy113
       clear hy113
       have H':=z1.mk H
       clear H
       have hcz27_0 : wr.cell? ⟨gb106,0,none⟩ = some (.int .u64 x107000_3):=(z5 BK106.out 0).trans rfl
       have hcz27_1 : wr.cell? ⟨gb106,1,none⟩ = some (.int .u64 x107001_3):=(z5 BK106.out 1).trans rfl
       have hfz27_0:=z4 BK106.out 0
       have hfz27_1:=z4 BK106.out 1
       try go_wp2_with (first|((with_reducible refine zo (f:=44) rfl ?_);refine goesL_ (some 42) rfl rfl Try.func44 zz84 rfl #[.agg #[.int .u64 x107000_3,.int .u64 x107001_3],.int .i64 x37_3] rfl zz45 ?_;(with_reducible refine (z1d.calls k3 x107000_3 x107001_3 x37_3 true _ A20.out).mono ?_);rintro e w28 ⟨rfl,hb⟩;refine ⟨_,rfl,?_⟩;have n0_:=z1.mk (Kd.zs zz74 hb);have n1_:=z1.mk (z9 (g:=gb106) (o:=.cells #[.int .u64 x107000_3,.int .u64 x107001_3] 35 (0,0)) zz51 hb);have n2_:=z1.mk (ze zz42 hb);clear HO_6;clear BK106;clear HB;have HO_6:=n0_;have BK106:=n1_;have HB:=n2_;clear n0_ n1_ n2_;(try clear hb);(try clear hb2);(try clear hk);(try clear hi)))
       have n0_:=z1.mk (Kd.zS HO_6.out)
       have n1_:=z1.mk (zb BK106.out)
       have n2_:=z1.mk (zc HB.out)
       clear HO_6
       clear BK106
       clear HB
       have HO_6:=n0_
       have BK106:=n1_
       have HB:=n2_
       clear n0_ n1_ n2_
       obtain ⟨Ao30,co30,eo30⟩:=Kd.z1e HO_6.out
       (first|subst eo30|(injection eo30 with f1_ f2_ f3_;have f4_:=f1_.symm;have f5_:=f3_.symm;clear f1_ f2_ f3_;subst f4_;subst f5_))
       have p108 : 0 ≤ (x37_3 : Int):=of_decide_eq_true zz81
       have q108 : x37_3 < (x6_3.length : Int):=of_decide_eq_true zz81
       obtain ⟨ad108,e108,hx108_0,hx108_1⟩:=z1Q (Kd.zA HO_6.out).2.2 x37_3 p108 q108
       cases e108
       replace p108:=eq_true p108
       replace q108:=eq_true q108
       refine start_ (n:=11) (S:=fun w'=>w'.cell? (ad108.add ((x37_3).toNat * 2)) = some (.int .u64 ((rd_T35 x6_3 x37_3).f0)) ∧ w'.cell? ⟨(ad108.add ((x37_3).toNat * 2)).block,(ad108.add ((x37_3).toNat * 2)).off + 1,none⟩ = some (.int .u64 ((rd_T35 x6_3 x37_3).f1))) (ds:=[10]) #[false,false,false,false,false,false,false,false,false,false,false] zz84 rfl rfl ⟨hx108_0,hx108_1⟩ (fun hHeld=>?_);refine z23 zz.tab13 zz.bits13 (fun HT_ HW_=>?_)
       generalize w28.drew = w29 at HO_6 BK106 HB hx108_0 hx108_1 hHeld ⊢
       refine pure_ (i:=0) (N:=some 43) (v:=?_) (a':=?_) #[true,false,false,false,false,false,false,false,false,false,false] rfl rfl (zW HT_.out zz84) (fun _ _ _ h=>h) (Or.inl ⟨by rfl,?_⟩) ?_ ?_
       rotate_left
       · intro w'
         go_simp
         with_reducible rfl
       rotate_left
       · simp only [Act.put,List.setIfInBounds_toArray,List.set_cons_zero,List.set_cons_succ,zH,zI]
         rfl
       refine pure_ (i:=1) (N:=some 44) (v:=?_) (a':=?_) #[true,true,false,false,false,false,false,false,false,false,false] rfl rfl (zW HT_.out zz84) (fun _ _ _ h=>h) (Or.inl ⟨by rfl,?_⟩) ?_ ?_
       rotate_left
       · intro w'
         go_simp
         with_reducible rfl
       rotate_left
       · simp only [Act.put,List.setIfInBounds_toArray,List.set_cons_zero,List.set_cons_succ,zH,zI]
         rfl
       refine pure_ (i:=2) (N:=some 45) (v:=?_) (a':=?_) #[true,true,true,false,false,false,false,false,false,false,false] rfl rfl (zW HT_.out zz84) (fun _ _ _ h=>h) (Or.inl ⟨by rfl,?_⟩) ?_ ?_
       rotate_left
       · intro w'
         go_simp
         with_reducible rfl
       rotate_left
       · simp only [Act.put,List.setIfInBounds_toArray,List.set_cons_zero,List.set_cons_succ,zH,zI]
         rfl
       refine pure_ (i:=3) (N:=some 46) (v:=?_) (a':=?_) #[true,true,true,true,false,false,false,false,false,false,false] rfl rfl (zW HT_.out zz84) (fun _ _ _ h=>h) (Or.inl ⟨by rfl,?_⟩) ?_ ?_
       rotate_left
       · intro w'
         go_simp
         with_reducible rfl
       rotate_left
       · simp only [Act.put,List.setIfInBounds_toArray,List.set_cons_zero,List.set_cons_succ,zH,zI]
         rfl
       refine pure_ (i:=4) (N:=some 47) (v:=?_) (a':=?_) #[true,true,true,true,true,false,false,false,false,false,false] rfl rfl (zW HT_.out zz84) (fun _ _ _ h=>h) (Or.inl ⟨by rfl,?_⟩) ?_ ?_
       rotate_left
       · intro w'
         go_simp
         with_reducible rfl
       rotate_left
       · simp only [Act.put,List.setIfInBounds_toArray,List.set_cons_zero,List.set_cons_succ,zH,zI]
         rfl
       refine pure_ (i:=6) (N:=some 49) (v:=?_) (a':=?_) #[true,true,true,true,true,false,true,false,false,false,false] rfl rfl (zW HT_.out zz84) (fun _ _ _ h=>h) (Or.inl ⟨by rfl,?_⟩) ?_ ?_
       rotate_left
       · intro w'
         go_simp
         with_reducible rfl
       rotate_left
       · simp only [Act.put,List.setIfInBounds_toArray,List.set_cons_zero,List.set_cons_succ,zH,zI]
         rfl
       refine take_ (i:=5) (N:=some 48) (v:=?_) (a':=?_) #[true,true,true,true,true,true,true,false,false,false,false] rfl rfl (z1N HT_.out HW_.out zz84) (fun _ _ _ h=>h) (Or.inl ⟨by rfl,?_⟩) hHeld ?_ ?_
       rotate_left
       · rintro w' ⟨s0,s1⟩
         go_simp
         with_reducible rfl
       rotate_left
       · simp only [Act.put,List.setIfInBounds_toArray,List.set_cons_zero,List.set_cons_succ,zH,zI]
         rfl
       refine one_ (i:=7) (N:=some 50) #[true,true,true,true,true,true,true,true,false,false,false] rfl rfl (z21 HT_.out zz84) zz85 (fun K hK=>?_)
       refine goes_ Try.func26 zz84 rfl #[.int .i64 x31_2] zz88 rfl rfl zz45 ?_
       with_reducible refine (zX.calls k3 x31_2 t109 t110 _ A24.out).mono ?_
       rintro e w31 ⟨rfl,hb⟩
       have HS0_:=(hb.cell (World.block_lt_of_cell? _ _ (hHeld.1))).trans (hHeld.1)
       have HS1_:=(hb.cell (World.block_lt_of_cell? _ _ (hHeld.2))).trans (hHeld.2)
       refine ⟨_,rfl,?_⟩
       have n0_:=z1.mk (Kd.zs zz74 hb)
       have n1_:=z1.mk (z9 (g:=gb106) (o:=.cells #[.int .u64 x107000_3,.int .u64 x107001_3] 35 (0,0)) zz51 hb)
       have n2_:=z1.mk (ze zz42 hb)
       clear HO_6
       clear BK106
       clear HB
       have HO_6:=n0_
       have BK106:=n1_
       have HB:=n2_
       clear n0_ n1_ n2_
       (try clear hb)
       (try clear hb2)
       (try clear hk)
       (try clear hi)
       refine hK.out _ _ ⟨HS0_,HS1_⟩ (fun hHeld=>?_)
       clear hK K
       refine norm_ (a':=?_) ?_ ?_
       rotate_left
       · show Act.put _ (some 50) _ = _
         simp only [Act.put,List.setIfInBounds_toArray,List.set_cons_zero,List.set_cons_succ,zH,zI]
         rfl
       refine one_ (i:=8) (N:=some 51) #[true,true,true,true,true,true,true,true,true,false,false] rfl rfl (z21 HT_.out zz84) zz85 (fun K hK=>?_)
       refine goes_ Try.func23 zz84 rfl #[.agg #[.int .u64 ((rd_T35 x6_3 x37_3).f0),.int .u64 ((rd_T35 x6_3 x37_3).f1)],.agg #[.int .u64 t109,.int .u64 t110]] zz88 rfl rfl zz45 ?_
       with_reducible refine (z1t.calls ((rd_T35 x6_3 x37_3).f0) ((rd_T35 x6_3 x37_3).f1) t109 t110 t111 t112 _ A25.out).mono ?_
       rintro e w32 ⟨rfl,hb⟩
       have HS0_:=(hb.cell (World.block_lt_of_cell? _ _ (hHeld.1))).trans (hHeld.1)
       have HS1_:=(hb.cell (World.block_lt_of_cell? _ _ (hHeld.2))).trans (hHeld.2)
       refine ⟨_,rfl,?_⟩
       have n0_:=z1.mk (Kd.zs zz74 hb)
       have n1_:=z1.mk (z9 (g:=gb106) (o:=.cells #[.int .u64 x107000_3,.int .u64 x107001_3] 35 (0,0)) zz51 hb)
       have n2_:=z1.mk (ze zz42 hb)
       clear HO_6
       clear BK106
       clear HB
       have HO_6:=n0_
       have BK106:=n1_
       have HB:=n2_
       clear n0_ n1_ n2_
       (try clear hb)
       (try clear hb2)
       (try clear hk)
       (try clear hi)
       have p26 : 0 ≤ (x37_3 : Int):=of_decide_eq_true zz81
       have q26 : (x37_3 : Int) < ((x6_3.length : Int) : Int):=of_decide_eq_true zz81
       obtain ⟨go26,co26,eo26,gb26,gl26,cl26,HG26⟩:=Kd.R_form HO_6.out zz86
       (first|cases eo26|(injection eo26 with ea_ en_ ec_;(first|subst ea_|(injection ea_ with ea_;subst ea_));subst ec_;clear en_))
       have GB26:=z1.mk gb26
       have GG26:=z1.mk HG26
       clear gb26 gl26 HG26
       (first|simp only [z1J] at hx108_0|skip)
       (first|simp only [z1J] at hx108_1|skip)
       obtain ⟨ce26,hcl26,hM26,hcc26,hfr26⟩:=Kd.z3U HO_6.out z35 (x37_3 : Int) p26 q26
       obtain rfl:=z27 hM26
       have hx26_0 : World.cell? _ ⟨go26,(x37_3 : Int).toNat * 2,none⟩ = some (.int .u64 ((rd_T35 x6_3 x37_3).f0)):=hcc26 0 _ rfl
       have hx26_1 : World.cell? _ ⟨go26,(x37_3 : Int).toNat * 2 + 1,none⟩ = some (.int .u64 ((rd_T35 x6_3 x37_3).f1)):=hcc26 1 _ rfl
       have hf26_0 : World.frozen? _ ⟨go26,(x37_3 : Int).toNat * 2,none⟩ = false:=hfr26 0
       have hf26_1 : World.frozen? _ ⟨go26,(x37_3 : Int).toNat * 2 + 1,none⟩ = false:=hfr26 1
       clear hcl26 hcc26 hfr26 hM26
       replace p26:=eq_true p26
       replace q26:=eq_true q26
       obtain ⟨ce33,hcl33,hM33,hcc33,hfr33⟩:=Kd.z3U HO_6.out z35 (x37_3 : Int) (of_decide_eq_true zz81) (by have h_ : (x37_3 : Int) < ((x6_3.length : Int) : Int):=of_decide_eq_true zz81;first|exact h_|(have e_:=(Kd.zA HO_6.out).1;omega)|simpa using h_)
       obtain rfl:=z27 hM33
       have HP33:=(Kd.R_seg HO_6.out (x37_3 : Int) (of_decide_eq_true zz81) (by have h_ : (x37_3 : Int) < ((x6_3.length : Int) : Int):=of_decide_eq_true zz81;first|exact h_|(have e_:=(Kd.zA HO_6.out).1;omega)|simpa using h_) (seg:=[.int .u64 t111,.int .u64 t112]) (j:=0) hcl33 hcc33 (show 2 ≤ 2 from by decide) (x':=(⟨t111,t112⟩ : S35)) (z2g _ _ _ (⟨t111,t112⟩ : S35) ) (fun _ hk=>hk)).1
       rw [← Ny113.out] at HP33
       have HQ33:=z1.mk HP33
       clear hcl33 hcc33 hfr33 hM33 HP33
       refine hK.out _ _ ⟨HS0_,HS1_⟩ (fun hHeld=>?_)
       clear hK K
       refine norm_ (a':=?_) ?_ ?_
       rotate_left
       · show Act.put _ (some 51) _ = _
         simp only [Act.put,List.setIfInBounds_toArray,List.set_cons_zero,List.set_cons_succ,zH,zI]
         rfl
       refine pure_ (i:=9) (N:=some 52) (v:=?_) (a':=?_) #[true,true,true,true,true,true,true,true,true,true,false] rfl rfl (zW HT_.out zz84) (fun _ _ _ h=>h) (Or.inl ⟨by rfl,?_⟩) ?_ ?_
       rotate_left
       · intro w'
         go_simp
         with_reducible rfl
       rotate_left
       · simp only [Act.put,List.setIfInBounds_toArray,List.set_cons_zero,List.set_cons_succ,zH,zI]
         rfl
       refine last_ (i:=10) (N:=none) #[true,true,true,true,true,true,true,true,true,true,true] rfl rfl (z21 HT_.out zz84) zz85 (fun K hK=>?_)
       refine skip_ (w1:=?_) zz88 rfl ?_ ?_
       rotate_left
       · go_simp
         rfl
       refine hK.out _ _ ?_
       clear hK K
       refine done_ (z2A HT_.out zz84) ?_
       try go_wp2
       go_roundg k3
       case measure=>have:=HJ2.out;have:=HK2.out;have:=HK3.out;omega
       case rel=>exact ⟨(y113),(wrap64 (x37_3 + 1)),(x107000_3),(x107001_3),zz82,H',⟨by have:=HJ2.out;have:=HK2.out;have:=HK3.out;omega⟩,⟨by (with_reducible repeat (first|apply Kd.zL|apply Kd.zM|apply Kd.zS));exact HQ33.out⟩,⟨by (with_reducible repeat (first|refine z8 ?_ _|refine zb ?_|refine z7 ?_ _));refine zP ?_ zz79 _;(with_reducible repeat (first|refine z8 ?_ _|refine zb ?_|refine z7 ?_ _));refine zP ?_ zz79 _;(with_reducible repeat (first|refine z8 ?_ _|refine zb ?_|refine z7 ?_ _));exact BK106.out⟩,⟨by repeat (first|(with_reducible first|exact HB.out|apply zd|apply z3|apply zc|refine za ?_ GB26.out|refine za ?_ GB26.out|refine za ?_ GE106.out)|exact HB.out)⟩⟩
end Go.Proofs.Ytnhbdhgbmjcjdaa.P
namespace Go.Proofs.Ytnhbdhgbmjcjdaa.P
open Go.RowKit Go.Proofs.YtnhbdhgbmjcjdaaW.PrintWords Go.Proofs.YtnhbdhgbmjcjdaaW.PrintLast Go.Proofs.YtnhbdhgbmjcjdaaW.PrintMore
attribute [local go_sem] z10 z12 z1h z1i zQ zR z11 z13   -- for this text's walks alone
set_option linter.unusedVariables false
set_option linter.unusedSimpArgs false
def zn.l0 : Nat → List Int → List (S35) → Int → Option ((List (S35)))
 | 0,_,_,_=>none
 | k + 1,x0,x3,x4=>if x4 < (x0.length : Int) then (if 0 ≤ x4 then (if x3.length < 8796093022208 then (zn.l0 k x0 (x3 ++ [(⟨0,rd x0 x4⟩ : S35)]) (wrap64 (x4 + 1))) else (none)) else (none)) else (some x3)
def zn.f (k : Nat) (l0 : List Int) : Option ((List (S35))):=zn.l0 k l0 ([] : List (S35)) 0
theorem zn.zY : ∀ k,(∀ y0 y1 y2,LeO (zn.l0 k y0 y1 y2) (zn.l0 (k + 1) y0 y1 y2))
 | 0=>fun _ _ _ r h=>by simp [zn.l0] at h
 | k + 1=>by
  have ih0:=zn.zY k
  · intro y0 y1 y2
    unfold zn.l0
    repeat' first
    | (with_reducible exact ih0 _ _ _)
    | (with_reducible exact LeO.refl _)
    | (with_reducible exact LeO.none _)
    | (with_reducible refine LeO.ite ?_ ?_)
    | (with_reducible refine LeO.bind ?_ (fun _=>?_))
    | exact ih0 _ _ _
    | exact LeO.none _
    | refine LeO.ite ?_ ?_
    | refine LeO.bind ?_ (fun _=>?_)
theorem zn.mono : ∀ a0 k,LeO (zn.f k a0) (zn.f (k + 1) a0):=by
 intro a0 k
 have ih0:=zn.zY k
 unfold zn.f
 repeat' first
  | (with_reducible exact ih0 _ _ _)
  | (with_reducible exact LeO.refl _)
  | (with_reducible exact LeO.none _)
  | (with_reducible refine LeO.ite ?_ ?_)
  | (with_reducible refine LeO.bind ?_ (fun _=>?_))
  | exact ih0 _ _ _
  | exact LeO.none _
  | refine LeO.ite ?_ ?_
  | refine LeO.bind ?_ (fun _=>?_)
set_option maxHeartbeats 8000000 in
set_option maxRecDepth 100000 in
theorem zn.calls (k : Nat) (A0 : Option Addr) (c0 : Nat) (l0 : List Int) (r : List (S35)) (w : World) (hr0 : Kd.C (Kd.int .u64) w A0 l0.length l0) (hc0 : l0.length ≤ c0) (h : zn.f k l0 = some r) :
 Calls Try.prog 41 #[.slice A0 l0.length c0] w fun e w'=>∃ v0_ : Value,e = .returned (v0_) ∧ Kd.R k35 35 w' w.heap.size (fun _=>True) v0_ r ∧ Below w.heap.size w w':=by
 have hu35:=Try.underlying35
 have HR0:=z1.mk hr0
 have HC0:=z1.mk hc0
 clear hr0 hc0
 have HB:=z1.mk (Below.refl w.heap.size w)
 have H : (zn.l0 k l0 ([] : List (S35)) 0) = some r:=h
 clear h
 have H':=z1.mk H
 clear H
 go_enter Try.func41,Try.ntmps41
 go_wp2
 go_loopg [3,4] k (fun kq v3 v4 w'=>∃ (x3_1 : List (S35)) (x4_1 : Int),v4 = .int .i64 x4_1 ∧ z1 (zn.l0 kq l0 x3_1 x4_1 = some r) ∧ z1 (kq ≤ k) ∧ z1 (Kd.R k35 35 w' w.heap.size (fun _=>True) v3 x3_1) ∧ z1 (Below w.heap.size w w'))
 case atStart=>exact ⟨(([] : List (S35))),(0),zz82,H',⟨Nat.le_refl _⟩,⟨by first|exact Kd.z2e _ _ _ _ _|exact Kd.z2t _ _ _ _ _|exact Kd.z2w _ _ _ _ _|exact Kd.z2u _ _ _ _ _|exact Kd.z2v _ _ _ _ _⟩,⟨by repeat (first|(with_reducible first|exact HB.out|apply zd|apply z3|apply zc)|exact HB.out)⟩⟩
 case round =>
  clear H'
  obtain ⟨x3_1,x4_1,rfl,HA,HK1,HO_3,HB⟩:=hrel
  cases gk with
  | zero=>exact absurd HA.out (by simp [zn.l0])
  | succ k1 =>
   have H:=HA.out
   clear HA
   simp only [zn.l0] at H
   by_cases c2 : x4_1 < (l0.length : Int)
   rotate_left
   · rw [if_neg c2] at H
     have c2b0 : decide (x4_1 < (l0.length : Int)) = false:=decide_eq_false c2
     clear c2
     obtain rfl:=Option.some.inj H
     go_wp2
     go_ret
     exact ⟨_,by first|rfl|(simp [zi,zj] <;> rfl)|(simp [*,zi,zj] <;> rfl),by (with_reducible repeat (first|apply Kd.zL|apply Kd.zM|apply Kd.zS));exact HO_3.out,by repeat (first|(with_reducible first|exact HB.out|apply zd|apply z3|apply zc)|exact HB.out)⟩
   rw [if_pos c2] at H
   have c2b0 : decide (x4_1 < (l0.length : Int)) = true:=decide_eq_true c2
   clear c2
   by_cases c3 : 0 ≤ x4_1
   rotate_left
   · rw [if_neg c3] at H
     exact absurd H zz87
   rw [if_pos c3] at H
   have c3b0 : decide (0 ≤ x4_1) = true:=decide_eq_true c3
   clear c3
   by_cases c4 : x3_1.length < 8796093022208
   rotate_left
   · rw [if_neg c4] at H
     exact absurd H zz87
   rw [if_pos c4] at H
   have LMc4:=z1.mk c4
   clear c4
   obtain ⟨y102,hy102⟩ : ∃ y_ : List (S35),y_ = (x3_1 ++ [(⟨0,rd l0 x4_1⟩ : S35)]):=⟨_,rfl⟩
   replace H : (zn.l0 k1 l0 y102 (wrap64 (x4_1 + 1))) = some r:=by first|(rw [hy102];with_reducible exact H)|(have H2_:=(Option.bind_some _ _).symm.trans H;rw [hy102];with_reducible exact H2_)|(have H2_:=(Option.bind_some _ _).symm.trans H;with_reducible exact H2_)|with_reducible exact H|(rw [hy102];exact H)|exact H
   have Ny102:=z1.mk hy102
   clear hy102
   have H':=z1.mk H
   clear H
   have p101 : 0 ≤ (x4_1 : Int):=of_decide_eq_true zz81
   have q101 : x4_1 < (l0.length : Int):=of_decide_eq_true zz81
   obtain ⟨ad101,e101,hx101_0⟩:=Kd.z5U HR0.out x4_1 p101 q101
   cases e101
   replace hx101_0:=(HB.out.cell (World.block_lt_of_cell? w _ hx101_0)).trans hx101_0
   replace p101:=eq_true p101
   replace q101:=eq_true q101
   go_wp2_with (first|((with_reducible refine z1H (b:=.append) (xs:=#[.tmp 11,.tmp 17]) rfl ?_);at_builtin;refine Kd.z2b k35 (w0:=w) w.heap.size rfl (.tmp 11) (.tmp 17) 22 35 (.agg #[(.int .u64 0),(.int .u64 0)]) 16 rfl Try.underlying22 info35 rfl zz85 zz86 u3 x3_1 (⟨0,rd l0 x4_1⟩ : S35) [.int .u64 0,.int .u64 (rd l0 x4_1)] (fun _=>True) (fun _=>False) rfl rfl ?aP (fun _ hk=>hk.elim) ?aF ?aO ?aB ?aS ?aL ?_;(case aP=>exact z2g _ _ _ (⟨0,rd l0 x4_1⟩ : S35));(case aB=>exact zz47);(case aF=>exact (fun _ _=>trivial));(case aO=>exact zz73);(case aS=>exact (zf zz47));(case aL=>have:=LMc4.out;omega);intro v103 w5 ho hb hg hat;rw [← Ny102.out] at ho;have n0_:=z1.mk (hb);have n1_:=z1.mk (ho);clear HB;clear HO_3;have HB:=n0_;have HO104:=n1_;clear n0_ n1_;clear ho hb hg hat))
   go_roundg k1
   case measure=>have:=HK1.out;omega
   case rel=>exact ⟨(y102),(wrap64 (x4_1 + 1)),zz82,H',⟨by have:=HK1.out;omega⟩,⟨by (with_reducible repeat (first|apply Kd.zL|apply Kd.zM|apply Kd.zS));exact HO104.out⟩,⟨by repeat (first|(with_reducible first|exact HB.out|apply zd|apply z3|apply zc)|exact HB.out)⟩⟩
end Go.Proofs.Ytnhbdhgbmjcjdaa.P
namespace Go.Proofs.Ytnhbdhgbmjcjdaa.P
open Go.RowKit Go.Proofs.YtnhbdhgbmjcjdaaW.PrintWords Go.Proofs.YtnhbdhgbmjcjdaaW.PrintLast Go.Proofs.YtnhbdhgbmjcjdaaW.PrintMore
attribute [local go_sem] z10 z12 z1h z1i zQ zR z11 z13   -- for this text's walks alone
set_option linter.unusedVariables false
set_option linter.unusedSimpArgs false
def z1c.l0 : Nat → List (S35) → Int → Int → Int → Int → Option (Int × Int)
 | 0,_,_,_,_,_=>none
 | k + 1,x7,x8,x9,x102000,x102001=>if x9 < x8 then (if 0 ≤ x9 then (if x9 < (x7.length : Int) then ((z14.f k ((rd_T35 x7 x9).f0) ((rd_T35 x7 x9).f1)).bind fun t105=>((z1d.f k x102000 x102001 t105).bind fun t106=>(if t106 = true then ((z1t.f x102000 x102001 ((rd_T35 x7 x9).f0) ((rd_T35 x7 x9).f1)).bind fun bt107=>(z1c.l0 k x7 x8 (wrap64 (x9 + 1)) bt107.1 bt107.2)) else (z1c.l0 k x7 x8 (wrap64 (x9 + 1)) x102000 x102001)))) else (none)) else (none)) else (some (x102000,x102001))
def z1c.f (k : Nat) (l0 : List (S35)) (a1_0 : Int) (a1_1 : Int) : Option (Int × Int):=z1c.l0 k l0 (l0.length : Int) 0 a1_0 a1_1
theorem z1c.zY : ∀ k,(∀ y0 y1 y2 y3 y4,LeO (z1c.l0 k y0 y1 y2 y3 y4) (z1c.l0 (k + 1) y0 y1 y2 y3 y4))
 | 0=>fun _ _ _ _ _ r h=>by simp [z1c.l0] at h
 | k + 1=>by
  have ih0:=z1c.zY k
  · intro y0 y1 y2 y3 y4
    unfold z1c.l0
    repeat' first
    | (with_reducible exact ih0 _ _ _ _ _)
    | (with_reducible exact z1d.mono _ _ _ _)
    | (with_reducible exact z14.mono _ _ _)
    | (with_reducible exact LeO.refl _)
    | (with_reducible exact LeO.none _)
    | (with_reducible refine LeO.ite ?_ ?_)
    | (with_reducible refine LeO.bind ?_ (fun _=>?_))
    | exact ih0 _ _ _ _ _
    | exact z1d.mono _ _ _ _
    | exact z14.mono _ _ _
    | exact LeO.none _
    | refine LeO.ite ?_ ?_
    | refine LeO.bind ?_ (fun _=>?_)
theorem z1c.mono : ∀ a0 a1 a2 k,LeO (z1c.f k a0 a1 a2) (z1c.f (k + 1) a0 a1 a2):=by
 intro a0 a1 a2 k
 have ih0:=z1c.zY k
 unfold z1c.f
 repeat' first
  | (with_reducible exact ih0 _ _ _ _ _)
  | (with_reducible exact z1d.mono _ _ _ _)
  | (with_reducible exact z14.mono _ _ _)
  | (with_reducible exact LeO.refl _)
  | (with_reducible exact LeO.none _)
  | (with_reducible refine LeO.ite ?_ ?_)
  | (with_reducible refine LeO.bind ?_ (fun _=>?_))
  | exact ih0 _ _ _ _ _
  | exact z1d.mono _ _ _ _
  | exact z14.mono _ _ _
  | exact LeO.none _
  | refine LeO.ite ?_ ?_
  | refine LeO.bind ?_ (fun _=>?_)
set_option maxHeartbeats 8000000 in
set_option maxRecDepth 100000 in
theorem z1c.calls (k : Nat) (A0 : Option Addr) (c0 : Nat) (l0 : List (S35)) (a1_0 : Int) (a1_1 : Int) (r1 : Int) (r2 : Int) (w : World) (hr0 : Kd.C k35 w A0 l0.length l0) (hc0 : l0.length ≤ c0) (h : z1c.f k l0 a1_0 a1_1 = some (r1,r2)) :
 Calls Try.prog 80 #[.slice A0 l0.length c0,.agg #[.int .u64 a1_0,.int .u64 a1_1]] w fun e w'=>e = .returned (.agg #[.int .u64 r1,.int .u64 r2]) ∧ Below w.heap.size w w':=by
 have hu35:=Try.underlying35
 have HR0:=z1.mk hr0
 have HC0:=z1.mk hc0
 clear hr0 hc0
 have HB:=z1.mk (Below.refl w.heap.size w)
 have H : (z1c.l0 k l0 (l0.length : Int) 0 a1_0 a1_1) = some (r1,r2):=h
 clear h
 have H':=z1.mk H
 clear H
 go_enter Try.func80,Try.ntmps80
 go_wp2_with (first|((with_reducible refine zE (N:=3) rfl ?_);refine zC ?hg (N:=3) ?hd (cs:=#[.int .u64 a1_0,.int .u64 a1_1]) (t:=35) ?hr ?_;(case hd=>rfl);(case hg=>rfl);(case hr=>first|(go_simp;done)|(go_simp;rfl));intro gb101 hg w3 hbox hb;have n0_:=z1.mk (ze zz47 hb);have n1_:=z1.mk (hbox);have n2_:=z1.mk ((by rw [hg];exact (zf zz47) : w.heap.size ≤ gb101));have n3_:=z1.mk ((by rw [hg];exact (zf zz47) : w.heap.size ≤ gb101));clear HB;have HB:=n0_;have BK101:=n1_;have GW101:=n2_;have GE101:=n3_;clear n0_ n1_ n2_ n3_;clear hb hbox hg)|((with_reducible refine zE (N:=4) rfl ?_);refine zC ?hg (N:=4) ?hd (cs:=#[.int .u64 0,.int .u64 0]) (t:=35) ?hr ?_;(case hd=>rfl);(case hg=>rfl);(case hr=>first|(go_simp;done)|(go_simp;rfl));intro gb102 hg w4 hbox hb;have n0_:=z1.mk (z9 (g:=gb101) (o:=.cells #[.int .u64 a1_0,.int .u64 a1_1] 35 (0,0)) zz49 hb);have n1_:=z1.mk (ze zz41 hb);have n2_:=z1.mk (hbox);have n3_:=z1.mk ((by rw [hg];exact (zf zz41) : w.heap.size ≤ gb102));have n4_:=z1.mk ((by rw [hg];exact (zf zz41) : w.heap.size ≤ gb102));have n5_:=z1.mk ((by rw [hg];exact Nat.ne_of_lt (zw (g:=gb101) (o:=.cells #[.int .u64 a1_0,.int .u64 a1_1] 35 (0,0)) zz49) : gb101 ≠ gb102));have n6_:=z1.mk ((by rw [hg];exact Nat.ne_of_gt (zw (g:=gb101) (o:=.cells #[.int .u64 a1_0,.int .u64 a1_1] 35 (0,0)) zz49) : gb102 ≠ gb101));clear BK101;clear HB;have BK101:=n0_;have HB:=n1_;have BK102:=n2_;have GW102:=n3_;have GE102:=n4_;have NB101_102:=n5_;have NB102_101:=n6_;clear n0_ n1_ n2_ n3_ n4_ n5_ n6_;clear hb hbox hg))
 go_loopg [9] k (fun kq v9 w'=>∃ (x9_1 : Int) (x102000_1 : Int) (x102001_1 : Int),v9 = .int .i64 x9_1 ∧ z1 (z1c.l0 kq l0 (l0.length : Int) x9_1 x102000_1 x102001_1 = some (r1,r2)) ∧ z1 (kq ≤ k) ∧ z1 (w'.heap[gb101]? = some (.cells #[.int .u64 x102000_1,.int .u64 x102001_1] 35 (0,0))) ∧ z1 (w'.heap[gb102]? = some (.cells #[.int .u64 0,.int .u64 0] 35 (0,0))) ∧ z1 (Below w.heap.size w w'))
 case atStart=>exact ⟨(0),(a1_0),(a1_1),zz82,H',⟨Nat.le_refl _⟩,⟨by (with_reducible repeat (first|refine z8 ?_ _|refine zb ?_|refine z7 ?_ _));exact BK101.out⟩,⟨by (with_reducible repeat (first|refine z8 ?_ _|refine zb ?_|refine z7 ?_ _));exact BK102.out⟩,⟨by repeat (first|(with_reducible first|exact HB.out|apply zd|apply z3|apply zc|refine za ?_ GE101.out|refine za ?_ GE102.out)|exact HB.out)⟩⟩
 case round =>
  clear H'
  (try clear p2)
  obtain ⟨x9_1,x102000_1,x102001_1,rfl,HA,HK1,BK101,BK102,HB⟩:=hrel
  cases gk with
  | zero=>exact absurd HA.out (by simp [z1c.l0])
  | succ k1 =>
   have H:=HA.out
   clear HA
   simp only [z1c.l0] at H
   by_cases c5 : x9_1 < (l0.length : Int)
   rotate_left
   · rw [if_neg c5] at H
     have c5b0 : decide (x9_1 < (l0.length : Int)) = false:=decide_eq_false c5
     clear c5
     simp only [Option.some.injEq,Prod.mk.injEq] at H
     obtain ⟨rfl,rfl⟩:=H
     have hnb33:=NB101_102.out
     have hnc33:=NB102_101.out
     have hcz34_0 : wr.cell? ⟨gb101,0,none⟩ = some (.int .u64 x102000_1):=(z5 BK101.out 0).trans rfl
     have hcz34_1 : wr.cell? ⟨gb101,1,none⟩ = some (.int .u64 x102001_1):=(z5 BK101.out 1).trans rfl
     have hfz34_0:=z4 BK101.out 0
     have hfz34_1:=z4 BK101.out 1
     have hcz35_0 : wr.cell? ⟨gb102,0,none⟩ = some (.int .u64 0):=(z5 BK102.out 0).trans rfl
     have hcz35_1 : wr.cell? ⟨gb102,1,none⟩ = some (.int .u64 0):=(z5 BK102.out 1).trans rfl
     have hfz35_0:=z4 BK102.out 0
     have hfz35_1:=z4 BK102.out 1
     go_wp2
     refine bodyPost_ret (results_cell_row rfl _ _ gb102 35 #[.int .u64 x102000_1,.int .u64 x102001_1] (0,0) _ rfl (by (with_reducible repeat (first|refine z8 ?_ _|refine zb ?_|refine z7 ?_ _));refine zT (cs:=#[.int .u64 x102000_1,.int .u64 0]) ?_ 1 _ rfl;(with_reducible repeat (first|refine z8 ?_ _|refine zb ?_|refine z7 ?_ _));refine zT (cs:=#[.int .u64 0,.int .u64 0]) ?_ 0 _ rfl;(with_reducible repeat (first|refine z8 ?_ _|refine zb ?_|refine z7 ?_ _));exact BK102.out) Try.underlying35 rfl zz84) rfl ?_
     exact ⟨by first|rfl|(simp [zi,zj] <;> rfl)|(simp [*,zi,zj] <;> rfl),by repeat (first|(with_reducible first|exact HB.out|apply zd|apply z3|apply zc|refine za ?_ GE101.out|refine za ?_ GE102.out)|exact HB.out)⟩
   rw [if_pos c5] at H
   have c5b0 : decide (x9_1 < (l0.length : Int)) = true:=decide_eq_true c5
   clear c5
   by_cases c6 : 0 ≤ x9_1
   rotate_left
   · rw [if_neg c6] at H
     exact absurd H zz87
   rw [if_pos c6] at H
   have c6b0 : decide (0 ≤ x9_1) = true:=decide_eq_true c6
   clear c6
   by_cases c7 : x9_1 < (l0.length : Int)
   rotate_left
   · rw [if_neg c7] at H
     exact absurd H zz87
   rw [if_pos c7] at H
   have c7b0 : decide (x9_1 < (l0.length : Int)) = true:=decide_eq_true c7
   clear c7
   replace H:=Option.bind_eq_some_iff.mp H
   obtain ⟨t105,A80,H⟩:=H
   replace H : ((z1d.f k1 x102000_1 x102001_1 t105).bind fun t106=>(if t106 = true then ((z1t.f x102000_1 x102001_1 ((rd_T35 l0 x9_1).f0) ((rd_T35 l0 x9_1).f1)).bind fun bt107=>(z1c.l0 k1 l0 (l0.length : Int) (wrap64 (x9_1 + 1)) bt107.1 bt107.2)) else (z1c.l0 k1 l0 (l0.length : Int) (wrap64 (x9_1 + 1)) x102000_1 x102001_1))) = some (r1,r2):=H
   have A8:=z1.mk A80
   clear A80
   replace H:=Option.bind_eq_some_iff.mp H
   obtain ⟨t106,A90,H⟩:=H
   replace H : (if t106 = true then ((z1t.f x102000_1 x102001_1 ((rd_T35 l0 x9_1).f0) ((rd_T35 l0 x9_1).f1)).bind fun bt107=>(z1c.l0 k1 l0 (l0.length : Int) (wrap64 (x9_1 + 1)) bt107.1 bt107.2)) else (z1c.l0 k1 l0 (l0.length : Int) (wrap64 (x9_1 + 1)) x102000_1 x102001_1)) = some (r1,r2):=H
   have A9:=z1.mk A90
   clear A90
   by_cases c10 : t106 = true
   rotate_left
   · replace c10:=Bool.eq_false_iff.mpr c10
     subst c10
     have H1 : (z1c.l0 k1 l0 (l0.length : Int) (wrap64 (x9_1 + 1)) x102000_1 x102001_1) = some (r1,r2):=by rw [if_neg (show ¬ (false = true) by decide)] at H;exact H
     clear H
     have H:=H1
     clear H1
     have H':=z1.mk H
     clear H
     have p103 : 0 ≤ (x9_1 : Int):=of_decide_eq_true zz81
     have q103 : x9_1 < (l0.length : Int):=of_decide_eq_true zz81
     obtain ⟨ad103,e103,hx103_0,hx103_1⟩:=z1Q HR0.out x9_1 p103 q103
     cases e103
     replace hx103_0:=(HB.out.cell (World.block_lt_of_cell? w _ hx103_0)).trans hx103_0
     replace hx103_1:=(HB.out.cell (World.block_lt_of_cell? w _ hx103_1)).trans hx103_1
     replace p103:=eq_true p103
     replace q103:=eq_true q103
     try go_wp2_with (first|((with_reducible refine zE (N:=6) rfl ?_);refine zC ?hg (N:=6) ?hd (cs:=#[.int .u64 0,.int .u64 0]) (t:=35) ?hr ?_;(case hd=>rfl);(case hg=>rfl);(case hr=>first|(go_simp;done)|(go_simp;rfl));intro gb104 hg w25 hbox hb;have n0_:=z1.mk (z9 (g:=gb101) (o:=.cells #[.int .u64 x102000_1,.int .u64 x102001_1] 35 (0,0)) zz49 hb);have n1_:=z1.mk (z9 (g:=gb102) (o:=.cells #[.int .u64 0,.int .u64 0] 35 (0,0)) zz50 hb);have n2_:=z1.mk (ze zz36 hb);have n3_:=z1.mk (hbox);have n4_:=z1.mk ((by rw [hg];exact (zf zz36) : w.heap.size ≤ gb104));have n5_:=z1.mk ((by rw [hg];exact (zf zz36) : w.heap.size ≤ gb104));have n6_:=z1.mk ((by rw [hg];exact Nat.ne_of_lt (zw (g:=gb101) (o:=.cells #[.int .u64 x102000_1,.int .u64 x102001_1] 35 (0,0)) zz49) : gb101 ≠ gb104));have n7_:=z1.mk ((by rw [hg];exact Nat.ne_of_gt (zw (g:=gb101) (o:=.cells #[.int .u64 x102000_1,.int .u64 x102001_1] 35 (0,0)) zz49) : gb104 ≠ gb101));have n8_:=z1.mk ((by rw [hg];exact Nat.ne_of_lt (zw (g:=gb102) (o:=.cells #[.int .u64 0,.int .u64 0] 35 (0,0)) zz50) : gb102 ≠ gb104));have n9_:=z1.mk ((by rw [hg];exact Nat.ne_of_gt (zw (g:=gb102) (o:=.cells #[.int .u64 0,.int .u64 0] 35 (0,0)) zz50) : gb104 ≠ gb102));clear BK101;clear BK102;clear HB;have BK101:=n0_;have BK102:=n1_;have HB:=n2_;have BK104:=n3_;have GW104:=n4_;have GE104:=n5_;have NB101_104:=n6_;have NB104_101:=n7_;have NB102_104:=n8_;have NB104_102:=n9_;clear n0_ n1_ n2_ n3_ n4_ n5_ n6_ n7_ n8_ n9_;clear hb hbox hg;have hnb26:=NB104_101.out;have hnc26:=NB101_104.out;have hnb27:=NB104_102.out;have hnc27:=NB102_104.out;have hcz28_0 : w25.cell? ⟨gb104,0,none⟩ = some (.int .u64 0):=(z5 BK104.out 0).trans rfl;have hcz28_1 : w25.cell? ⟨gb104,1,none⟩ = some (.int .u64 0):=(z5 BK104.out 1).trans rfl;have hfz28_0:=z4 BK104.out 0;have hfz28_1:=z4 BK104.out 1))
     have n0_ : z1 (((w25.setCell ⟨gb104,0,none⟩ (.int .u64 ((rd_T35 l0 x9_1).f0))).setCell ⟨gb104,1,none⟩ (.int .u64 ((rd_T35 l0 x9_1).f1))).heap[gb101]? = some (.cells #[.int .u64 x102000_1,.int .u64 x102001_1] 35 (0,0))):=⟨by (with_reducible repeat (first|refine z8 ?_ _|refine zb ?_|refine z7 ?_ _));refine zP ?_ NB101_104.out _;(with_reducible repeat (first|refine z8 ?_ _|refine zb ?_|refine z7 ?_ _));refine zP ?_ NB101_104.out _;(with_reducible repeat (first|refine z8 ?_ _|refine zb ?_|refine z7 ?_ _));exact BK101.out⟩
     have n1_ : z1 (((w25.setCell ⟨gb104,0,none⟩ (.int .u64 ((rd_T35 l0 x9_1).f0))).setCell ⟨gb104,1,none⟩ (.int .u64 ((rd_T35 l0 x9_1).f1))).heap[gb102]? = some (.cells #[.int .u64 0,.int .u64 0] 35 (0,0))):=⟨by (with_reducible repeat (first|refine z8 ?_ _|refine zb ?_|refine z7 ?_ _));refine zP ?_ NB102_104.out _;(with_reducible repeat (first|refine z8 ?_ _|refine zb ?_|refine z7 ?_ _));refine zP ?_ NB102_104.out _;(with_reducible repeat (first|refine z8 ?_ _|refine zb ?_|refine z7 ?_ _));exact BK102.out⟩
     have n2_ : z1 (((w25.setCell ⟨gb104,0,none⟩ (.int .u64 ((rd_T35 l0 x9_1).f0))).setCell ⟨gb104,1,none⟩ (.int .u64 ((rd_T35 l0 x9_1).f1))).heap[gb104]? = some (.cells #[.int .u64 ((rd_T35 l0 x9_1).f0),.int .u64 ((rd_T35 l0 x9_1).f1)] 35 (0,0))):=⟨by (with_reducible repeat (first|refine z8 ?_ _|refine zb ?_|refine z7 ?_ _));refine zT (cs:=#[.int .u64 ((rd_T35 l0 x9_1).f0),.int .u64 0]) ?_ 1 _ rfl;(with_reducible repeat (first|refine z8 ?_ _|refine zb ?_|refine z7 ?_ _));refine zT (cs:=#[.int .u64 0,.int .u64 0]) ?_ 0 _ rfl;(with_reducible repeat (first|refine z8 ?_ _|refine zb ?_|refine z7 ?_ _));exact BK104.out⟩
     have n3_ : z1 (Below w.heap.size w ((w25.setCell ⟨gb104,0,none⟩ (.int .u64 ((rd_T35 l0 x9_1).f0))).setCell ⟨gb104,1,none⟩ (.int .u64 ((rd_T35 l0 x9_1).f1)))):=⟨by repeat (first|(with_reducible first|exact HB.out|apply zd|apply z3|apply zc|refine za ?_ GE101.out|refine za ?_ GE102.out|refine za ?_ GE104.out)|exact HB.out)⟩
     (try clear BK101)
     (try clear BK102)
     (try clear BK104)
     (try clear HB)
     generalize ((w25.setCell ⟨gb104,0,none⟩ (.int .u64 ((rd_T35 l0 x9_1).f0))).setCell ⟨gb104,1,none⟩ (.int .u64 ((rd_T35 l0 x9_1).f1))) = w29 at n0_ n1_ n2_ n3_ ⊢
     have BK101:=n0_
     have BK102:=n1_
     have BK104:=n2_
     have HB:=n3_
     clear n0_ n1_ n2_ n3_
     have n0_:=z1.mk (zb BK101.out)
     have n1_:=z1.mk (zb BK102.out)
     have n2_:=z1.mk (zb BK104.out)
     have n3_:=z1.mk (zc HB.out)
     clear BK101
     clear BK102
     clear BK104
     clear HB
     have BK101:=n0_
     have BK102:=n1_
     have BK104:=n2_
     have HB:=n3_
     clear n0_ n1_ n2_ n3_
     refine start_ (n:=4) (S:=fun w'=>w'.cell? ⟨gb101,0,none⟩ = some (.int .u64 x102000_1) ∧ w'.cell? ⟨gb101,1,none⟩ = some (.int .u64 x102001_1) ∧ w'.cell? ⟨gb104,0,none⟩ = some (.int .u64 ((rd_T35 l0 x9_1).f0)) ∧ w'.cell? ⟨gb104,1,none⟩ = some (.int .u64 ((rd_T35 l0 x9_1).f1))) (ds:=[]) #[false,false,false,false] zz84 rfl rfl ⟨(z5 BK101.out 0).trans rfl,(z5 BK101.out 1).trans rfl,(z5 BK104.out 0).trans rfl,(z5 BK104.out 1).trans rfl⟩ (fun hHeld=>?_)
     generalize w29.drew = w30 at BK101 BK102 BK104 HB hHeld ⊢
     refine take_ (i:=0) (N:=some 13) (v:=?_) (a':=?_) #[true,false,false,false] rfl rfl zz84 (fun _ _ _ h=>h) (Or.inl ⟨by rfl,?_⟩) hHeld ?_ ?_
     rotate_left
     · rintro w' ⟨s0,s1,s2,s3⟩
       go_simp
       with_reducible rfl
     rotate_left
     · simp only [Act.put,List.setIfInBounds_toArray,List.set_cons_zero,List.set_cons_succ,zH,zI]
       rfl
     refine take_ (i:=1) (N:=some 14) (v:=?_) (a':=?_) #[true,true,false,false] rfl rfl zz84 (fun _ _ _ h=>h) (Or.inl ⟨by rfl,?_⟩) hHeld ?_ ?_
     rotate_left
     · rintro w' ⟨s0,s1,s2,s3⟩
       go_simp
       with_reducible rfl
     rotate_left
     · simp only [Act.put,List.setIfInBounds_toArray,List.set_cons_zero,List.set_cons_succ,zH,zI]
       rfl
     refine one_ (i:=2) (N:=some 15) #[true,true,true,false] rfl rfl zz84 zz85 (fun K hK=>?_)
     refine goes_ Try.func49 zz84 rfl #[.agg #[.int .u64 ((rd_T35 l0 x9_1).f0),.int .u64 ((rd_T35 l0 x9_1).f1)]] zz88 rfl rfl zz45 ?_
     with_reducible refine (z14.calls k1 ((rd_T35 l0 x9_1).f0) ((rd_T35 l0 x9_1).f1) t105 _ A8.out).mono ?_
     rintro e w31 ⟨rfl,hb⟩
     refine ⟨_,rfl,?_⟩
     have n0_:=z1.mk (z9 (g:=gb101) (o:=.cells #[.int .u64 x102000_1,.int .u64 x102001_1] 35 (0,0)) zz49 hb)
     have n1_:=z1.mk (z9 (g:=gb102) (o:=.cells #[.int .u64 0,.int .u64 0] 35 (0,0)) zz50 hb)
     have n2_:=z1.mk (z9 (g:=gb104) (o:=.cells #[.int .u64 ((rd_T35 l0 x9_1).f0),.int .u64 ((rd_T35 l0 x9_1).f1)] 35 (0,0)) zz52 hb)
     have n3_:=z1.mk (ze zz31 hb)
     clear BK101
     clear BK102
     clear BK104
     clear HB
     have BK101:=n0_
     have BK102:=n1_
     have BK104:=n2_
     have HB:=n3_
     clear n0_ n1_ n2_ n3_
     (try clear hb)
     (try clear hb2)
     (try clear hk)
     (try clear hi)
     refine hK.out _ _ ⟨(z5 BK101.out 0).trans rfl,(z5 BK101.out 1).trans rfl,(z5 BK104.out 0).trans rfl,(z5 BK104.out 1).trans rfl⟩ (fun hHeld=>?_)
     clear hK K
     refine norm_ (a':=?_) ?_ ?_
     rotate_left
     · show Act.put _ (some 15) _ = _
       simp only [Act.put,List.setIfInBounds_toArray,List.set_cons_zero,List.set_cons_succ,zH,zI]
       rfl
     refine one_ (i:=3) (N:=some 16) #[true,true,true,true] rfl rfl zz84 zz85 (fun K hK=>?_)
     refine goes_ Try.func44 zz84 rfl #[.agg #[.int .u64 x102000_1,.int .u64 x102001_1],.int .i64 t105] zz88 rfl rfl zz45 ?_
     with_reducible refine (z1d.calls k1 x102000_1 x102001_1 t105 false _ A9.out).mono ?_
     rintro e w32 ⟨rfl,hb⟩
     refine ⟨_,rfl,?_⟩
     have n0_:=z1.mk (z9 (g:=gb101) (o:=.cells #[.int .u64 x102000_1,.int .u64 x102001_1] 35 (0,0)) zz49 hb)
     have n1_:=z1.mk (z9 (g:=gb102) (o:=.cells #[.int .u64 0,.int .u64 0] 35 (0,0)) zz50 hb)
     have n2_:=z1.mk (z9 (g:=gb104) (o:=.cells #[.int .u64 ((rd_T35 l0 x9_1).f0),.int .u64 ((rd_T35 l0 x9_1).f1)] 35 (0,0)) zz52 hb)
     have n3_:=z1.mk (ze zz31 hb)
     clear BK101
     clear BK102
     clear BK104
     clear HB
     have BK101:=n0_
     have BK102:=n1_
     have BK104:=n2_
     have HB:=n3_
     clear n0_ n1_ n2_ n3_
     (try clear hb)
     (try clear hb2)
     (try clear hk)
     (try clear hi)
     refine hK.out _ _ ⟨(z5 BK101.out 0).trans rfl,(z5 BK101.out 1).trans rfl,(z5 BK104.out 0).trans rfl,(z5 BK104.out 1).trans rfl⟩ (fun hHeld=>?_)
     clear hK K
     refine norm_ (a':=?_) ?_ ?_
     rotate_left
     · show Act.put _ (some 16) _ = _
       simp only [Act.put,List.setIfInBounds_toArray,List.set_cons_zero,List.set_cons_succ,zH,zI]
       rfl
     refine done_ zz84 ?_
     try go_wp2
     go_roundg k1
     case measure=>have:=HK1.out;omega
     case rel=>exact ⟨(wrap64 (x9_1 + 1)),(x102000_1),(x102001_1),zz82,H',⟨by have:=HK1.out;omega⟩,⟨by (with_reducible repeat (first|refine z8 ?_ _|refine zb ?_|refine z7 ?_ _));exact BK101.out⟩,⟨by (with_reducible repeat (first|refine z8 ?_ _|refine zb ?_|refine z7 ?_ _));exact BK102.out⟩,⟨by repeat (first|(with_reducible first|exact HB.out|apply zd|apply z3|apply zc|refine za ?_ GE101.out|refine za ?_ GE102.out|refine za ?_ GE104.out)|exact HB.out)⟩⟩
   subst c10
   have H1 : ((z1t.f x102000_1 x102001_1 ((rd_T35 l0 x9_1).f0) ((rd_T35 l0 x9_1).f1)).bind fun bt107=>(z1c.l0 k1 l0 (l0.length : Int) (wrap64 (x9_1 + 1)) bt107.1 bt107.2)) = some (r1,r2):=by rw [if_pos rfl] at H;exact H
   clear H
   have H:=H1
   clear H1
   replace H:=Option.bind_eq_some_iff.mp H
   obtain ⟨⟨t107,t108⟩,A110,H⟩:=H
   replace H : (z1c.l0 k1 l0 (l0.length : Int) (wrap64 (x9_1 + 1)) t107 t108) = some (r1,r2):=H
   have A11:=z1.mk A110
   clear A110
   have H':=z1.mk H
   clear H
   have p103 : 0 ≤ (x9_1 : Int):=of_decide_eq_true zz81
   have q103 : x9_1 < (l0.length : Int):=of_decide_eq_true zz81
   obtain ⟨ad103,e103,hx103_0,hx103_1⟩:=z1Q HR0.out x9_1 p103 q103
   cases e103
   replace hx103_0:=(HB.out.cell (World.block_lt_of_cell? w _ hx103_0)).trans hx103_0
   replace hx103_1:=(HB.out.cell (World.block_lt_of_cell? w _ hx103_1)).trans hx103_1
   replace p103:=eq_true p103
   replace q103:=eq_true q103
   try go_wp2_with (first|((with_reducible refine zE (N:=6) rfl ?_);refine zC ?hg (N:=6) ?hd (cs:=#[.int .u64 0,.int .u64 0]) (t:=35) ?hr ?_;(case hd=>rfl);(case hg=>rfl);(case hr=>first|(go_simp;done)|(go_simp;rfl));intro gb104 hg w12 hbox hb;have n0_:=z1.mk (z9 (g:=gb101) (o:=.cells #[.int .u64 x102000_1,.int .u64 x102001_1] 35 (0,0)) zz49 hb);have n1_:=z1.mk (z9 (g:=gb102) (o:=.cells #[.int .u64 0,.int .u64 0] 35 (0,0)) zz50 hb);have n2_:=z1.mk (ze zz36 hb);have n3_:=z1.mk (hbox);have n4_:=z1.mk ((by rw [hg];exact (zf zz36) : w.heap.size ≤ gb104));have n5_:=z1.mk ((by rw [hg];exact (zf zz36) : w.heap.size ≤ gb104));have n6_:=z1.mk ((by rw [hg];exact Nat.ne_of_lt (zw (g:=gb101) (o:=.cells #[.int .u64 x102000_1,.int .u64 x102001_1] 35 (0,0)) zz49) : gb101 ≠ gb104));have n7_:=z1.mk ((by rw [hg];exact Nat.ne_of_gt (zw (g:=gb101) (o:=.cells #[.int .u64 x102000_1,.int .u64 x102001_1] 35 (0,0)) zz49) : gb104 ≠ gb101));have n8_:=z1.mk ((by rw [hg];exact Nat.ne_of_lt (zw (g:=gb102) (o:=.cells #[.int .u64 0,.int .u64 0] 35 (0,0)) zz50) : gb102 ≠ gb104));have n9_:=z1.mk ((by rw [hg];exact Nat.ne_of_gt (zw (g:=gb102) (o:=.cells #[.int .u64 0,.int .u64 0] 35 (0,0)) zz50) : gb104 ≠ gb102));clear BK101;clear BK102;clear HB;have BK101:=n0_;have BK102:=n1_;have HB:=n2_;have BK104:=n3_;have GW104:=n4_;have GE104:=n5_;have NB101_104:=n6_;have NB104_101:=n7_;have NB102_104:=n8_;have NB104_102:=n9_;clear n0_ n1_ n2_ n3_ n4_ n5_ n6_ n7_ n8_ n9_;clear hb hbox hg;have hnb13:=NB104_101.out;have hnc13:=NB101_104.out;have hnb14:=NB104_102.out;have hnc14:=NB102_104.out;have hcz15_0 : w12.cell? ⟨gb104,0,none⟩ = some (.int .u64 0):=(z5 BK104.out 0).trans rfl;have hcz15_1 : w12.cell? ⟨gb104,1,none⟩ = some (.int .u64 0):=(z5 BK104.out 1).trans rfl;have hfz15_0:=z4 BK104.out 0;have hfz15_1:=z4 BK104.out 1))
   have n0_ : z1 (((w12.setCell ⟨gb104,0,none⟩ (.int .u64 ((rd_T35 l0 x9_1).f0))).setCell ⟨gb104,1,none⟩ (.int .u64 ((rd_T35 l0 x9_1).f1))).heap[gb101]? = some (.cells #[.int .u64 x102000_1,.int .u64 x102001_1] 35 (0,0))):=⟨by (with_reducible repeat (first|refine z8 ?_ _|refine zb ?_|refine z7 ?_ _));refine zP ?_ NB101_104.out _;(with_reducible repeat (first|refine z8 ?_ _|refine zb ?_|refine z7 ?_ _));refine zP ?_ NB101_104.out _;(with_reducible repeat (first|refine z8 ?_ _|refine zb ?_|refine z7 ?_ _));exact BK101.out⟩
   have n1_ : z1 (((w12.setCell ⟨gb104,0,none⟩ (.int .u64 ((rd_T35 l0 x9_1).f0))).setCell ⟨gb104,1,none⟩ (.int .u64 ((rd_T35 l0 x9_1).f1))).heap[gb102]? = some (.cells #[.int .u64 0,.int .u64 0] 35 (0,0))):=⟨by (with_reducible repeat (first|refine z8 ?_ _|refine zb ?_|refine z7 ?_ _));refine zP ?_ NB102_104.out _;(with_reducible repeat (first|refine z8 ?_ _|refine zb ?_|refine z7 ?_ _));refine zP ?_ NB102_104.out _;(with_reducible repeat (first|refine z8 ?_ _|refine zb ?_|refine z7 ?_ _));exact BK102.out⟩
   have n2_ : z1 (((w12.setCell ⟨gb104,0,none⟩ (.int .u64 ((rd_T35 l0 x9_1).f0))).setCell ⟨gb104,1,none⟩ (.int .u64 ((rd_T35 l0 x9_1).f1))).heap[gb104]? = some (.cells #[.int .u64 ((rd_T35 l0 x9_1).f0),.int .u64 ((rd_T35 l0 x9_1).f1)] 35 (0,0))):=⟨by (with_reducible repeat (first|refine z8 ?_ _|refine zb ?_|refine z7 ?_ _));refine zT (cs:=#[.int .u64 ((rd_T35 l0 x9_1).f0),.int .u64 0]) ?_ 1 _ rfl;(with_reducible repeat (first|refine z8 ?_ _|refine zb ?_|refine z7 ?_ _));refine zT (cs:=#[.int .u64 0,.int .u64 0]) ?_ 0 _ rfl;(with_reducible repeat (first|refine z8 ?_ _|refine zb ?_|refine z7 ?_ _));exact BK104.out⟩
   have n3_ : z1 (Below w.heap.size w ((w12.setCell ⟨gb104,0,none⟩ (.int .u64 ((rd_T35 l0 x9_1).f0))).setCell ⟨gb104,1,none⟩ (.int .u64 ((rd_T35 l0 x9_1).f1)))):=⟨by repeat (first|(with_reducible first|exact HB.out|apply zd|apply z3|apply zc|refine za ?_ GE101.out|refine za ?_ GE102.out|refine za ?_ GE104.out)|exact HB.out)⟩
   (try clear BK101)
   (try clear BK102)
   (try clear BK104)
   (try clear HB)
   generalize ((w12.setCell ⟨gb104,0,none⟩ (.int .u64 ((rd_T35 l0 x9_1).f0))).setCell ⟨gb104,1,none⟩ (.int .u64 ((rd_T35 l0 x9_1).f1))) = w16 at n0_ n1_ n2_ n3_ ⊢
   have BK101:=n0_
   have BK102:=n1_
   have BK104:=n2_
   have HB:=n3_
   clear n0_ n1_ n2_ n3_
   have n0_:=z1.mk (zb BK101.out)
   have n1_:=z1.mk (zb BK102.out)
   have n2_:=z1.mk (zb BK104.out)
   have n3_:=z1.mk (zc HB.out)
   clear BK101
   clear BK102
   clear BK104
   clear HB
   have BK101:=n0_
   have BK102:=n1_
   have BK104:=n2_
   have HB:=n3_
   clear n0_ n1_ n2_ n3_
   refine start_ (n:=4) (S:=fun w'=>w'.cell? ⟨gb101,0,none⟩ = some (.int .u64 x102000_1) ∧ w'.cell? ⟨gb101,1,none⟩ = some (.int .u64 x102001_1) ∧ w'.cell? ⟨gb104,0,none⟩ = some (.int .u64 ((rd_T35 l0 x9_1).f0)) ∧ w'.cell? ⟨gb104,1,none⟩ = some (.int .u64 ((rd_T35 l0 x9_1).f1))) (ds:=[]) #[false,false,false,false] zz84 rfl rfl ⟨(z5 BK101.out 0).trans rfl,(z5 BK101.out 1).trans rfl,(z5 BK104.out 0).trans rfl,(z5 BK104.out 1).trans rfl⟩ (fun hHeld=>?_)
   generalize w16.drew = w17 at BK101 BK102 BK104 HB hHeld ⊢
   refine take_ (i:=0) (N:=some 13) (v:=?_) (a':=?_) #[true,false,false,false] rfl rfl zz84 (fun _ _ _ h=>h) (Or.inl ⟨by rfl,?_⟩) hHeld ?_ ?_
   rotate_left
   · rintro w' ⟨s0,s1,s2,s3⟩
     go_simp
     with_reducible rfl
   rotate_left
   · simp only [Act.put,List.setIfInBounds_toArray,List.set_cons_zero,List.set_cons_succ,zH,zI]
     rfl
   refine take_ (i:=1) (N:=some 14) (v:=?_) (a':=?_) #[true,true,false,false] rfl rfl zz84 (fun _ _ _ h=>h) (Or.inl ⟨by rfl,?_⟩) hHeld ?_ ?_
   rotate_left
   · rintro w' ⟨s0,s1,s2,s3⟩
     go_simp
     with_reducible rfl
   rotate_left
   · simp only [Act.put,List.setIfInBounds_toArray,List.set_cons_zero,List.set_cons_succ,zH,zI]
     rfl
   refine one_ (i:=2) (N:=some 15) #[true,true,true,false] rfl rfl zz84 zz85 (fun K hK=>?_)
   refine goes_ Try.func49 zz84 rfl #[.agg #[.int .u64 ((rd_T35 l0 x9_1).f0),.int .u64 ((rd_T35 l0 x9_1).f1)]] zz88 rfl rfl zz45 ?_
   with_reducible refine (z14.calls k1 ((rd_T35 l0 x9_1).f0) ((rd_T35 l0 x9_1).f1) t105 _ A8.out).mono ?_
   rintro e w18 ⟨rfl,hb⟩
   refine ⟨_,rfl,?_⟩
   have n0_:=z1.mk (z9 (g:=gb101) (o:=.cells #[.int .u64 x102000_1,.int .u64 x102001_1] 35 (0,0)) zz49 hb)
   have n1_:=z1.mk (z9 (g:=gb102) (o:=.cells #[.int .u64 0,.int .u64 0] 35 (0,0)) zz50 hb)
   have n2_:=z1.mk (z9 (g:=gb104) (o:=.cells #[.int .u64 ((rd_T35 l0 x9_1).f0),.int .u64 ((rd_T35 l0 x9_1).f1)] 35 (0,0)) zz52 hb)
   have n3_:=z1.mk (ze zz31 hb)
   clear BK101
   clear BK102
   clear BK104
   clear HB
   have BK101:=n0_
   have BK102:=n1_
   have BK104:=n2_
   have HB:=n3_
   clear n0_ n1_ n2_ n3_
   (try clear hb)
   (try clear hb2)
   (try clear hk)
   (try clear hi)
   refine hK.out _ _ ⟨(z5 BK101.out 0).trans rfl,(z5 BK101.out 1).trans rfl,(z5 BK104.out 0).trans rfl,(z5 BK104.out 1).trans rfl⟩ (fun hHeld=>?_)
   clear hK K
   refine norm_ (a':=?_) ?_ ?_
   rotate_left
   · show Act.put _ (some 15) _ = _
     simp only [Act.put,List.setIfInBounds_toArray,List.set_cons_zero,List.set_cons_succ,zH,zI]
     rfl
   refine one_ (i:=3) (N:=some 16) #[true,true,true,true] rfl rfl zz84 zz85 (fun K hK=>?_)
   refine goes_ Try.func44 zz84 rfl #[.agg #[.int .u64 x102000_1,.int .u64 x102001_1],.int .i64 t105] zz88 rfl rfl zz45 ?_
   with_reducible refine (z1d.calls k1 x102000_1 x102001_1 t105 true _ A9.out).mono ?_
   rintro e w19 ⟨rfl,hb⟩
   refine ⟨_,rfl,?_⟩
   have n0_:=z1.mk (z9 (g:=gb101) (o:=.cells #[.int .u64 x102000_1,.int .u64 x102001_1] 35 (0,0)) zz49 hb)
   have n1_:=z1.mk (z9 (g:=gb102) (o:=.cells #[.int .u64 0,.int .u64 0] 35 (0,0)) zz50 hb)
   have n2_:=z1.mk (z9 (g:=gb104) (o:=.cells #[.int .u64 ((rd_T35 l0 x9_1).f0),.int .u64 ((rd_T35 l0 x9_1).f1)] 35 (0,0)) zz52 hb)
   have n3_:=z1.mk (ze zz31 hb)
   clear BK101
   clear BK102
   clear BK104
   clear HB
   have BK101:=n0_
   have BK102:=n1_
   have BK104:=n2_
   have HB:=n3_
   clear n0_ n1_ n2_ n3_
   (try clear hb)
   (try clear hb2)
   (try clear hk)
   (try clear hi)
   refine hK.out _ _ ⟨(z5 BK101.out 0).trans rfl,(z5 BK101.out 1).trans rfl,(z5 BK104.out 0).trans rfl,(z5 BK104.out 1).trans rfl⟩ (fun hHeld=>?_)
   clear hK K
   refine norm_ (a':=?_) ?_ ?_
   rotate_left
   · show Act.put _ (some 16) _ = _
     simp only [Act.put,List.setIfInBounds_toArray,List.set_cons_zero,List.set_cons_succ,zH,zI]
     rfl
   refine done_ zz84 ?_
   have hnb20:=NB101_102.out
   have hnc20:=NB102_101.out
   have hcz21_0 : w19.cell? ⟨gb101,0,none⟩ = some (.int .u64 x102000_1):=(z5 BK101.out 0).trans rfl
   have hcz21_1 : w19.cell? ⟨gb101,1,none⟩ = some (.int .u64 x102001_1):=(z5 BK101.out 1).trans rfl
   have hfz21_0:=z4 BK101.out 0
   have hfz21_1:=z4 BK101.out 1
   have hcz22_0 : w19.cell? ⟨gb104,0,none⟩ = some (.int .u64 ((rd_T35 l0 x9_1).f0)):=(z5 BK104.out 0).trans rfl
   have hcz22_1 : w19.cell? ⟨gb104,1,none⟩ = some (.int .u64 ((rd_T35 l0 x9_1).f1)):=(z5 BK104.out 1).trans rfl
   have hfz22_0:=z4 BK104.out 0
   have hfz22_1:=z4 BK104.out 1
   try go_wp2_with (first|((with_reducible refine zo (f:=23) rfl ?_);refine goesL_ (some 19) rfl rfl Try.func23 zz84 rfl #[.agg #[.int .u64 x102000_1,.int .u64 x102001_1],.agg #[.int .u64 ((rd_T35 l0 x9_1).f0),.int .u64 ((rd_T35 l0 x9_1).f1)]] rfl zz45 ?_;(with_reducible refine (z1t.calls x102000_1 x102001_1 ((rd_T35 l0 x9_1).f0) ((rd_T35 l0 x9_1).f1) t107 t108 _ A11.out).mono ?_);rintro e w23 ⟨rfl,hb⟩;refine ⟨_,rfl,?_⟩;have n0_:=z1.mk (z9 (g:=gb101) (o:=.cells #[.int .u64 x102000_1,.int .u64 x102001_1] 35 (0,0)) zz49 hb);have n1_:=z1.mk (z9 (g:=gb102) (o:=.cells #[.int .u64 0,.int .u64 0] 35 (0,0)) zz50 hb);have n2_:=z1.mk (z9 (g:=gb104) (o:=.cells #[.int .u64 ((rd_T35 l0 x9_1).f0),.int .u64 ((rd_T35 l0 x9_1).f1)] 35 (0,0)) zz52 hb);have n3_:=z1.mk (ze zz31 hb);clear BK101;clear BK102;clear BK104;clear HB;have BK101:=n0_;have BK102:=n1_;have BK104:=n2_;have HB:=n3_;clear n0_ n1_ n2_ n3_;(try clear hb);(try clear hb2);(try clear hk);(try clear hi);have hcz24_0 : w23.cell? ⟨gb101,0,none⟩ = some (.int .u64 x102000_1):=(z5 BK101.out 0).trans rfl;have hcz24_1 : w23.cell? ⟨gb101,1,none⟩ = some (.int .u64 x102001_1):=(z5 BK101.out 1).trans rfl;have hfz24_0:=z4 BK101.out 0;have hfz24_1:=z4 BK101.out 1))
   go_roundg k1
   case measure=>have:=HK1.out;omega
   case rel=>exact ⟨(wrap64 (x9_1 + 1)),(t107),(t108),zz82,H',⟨by have:=HK1.out;omega⟩,⟨by (with_reducible repeat (first|refine z8 ?_ _|refine zb ?_|refine z7 ?_ _));refine zT (cs:=#[.int .u64 t107,.int .u64 x102001_1]) ?_ 1 _ rfl;(with_reducible repeat (first|refine z8 ?_ _|refine zb ?_|refine z7 ?_ _));refine zT (cs:=#[.int .u64 x102000_1,.int .u64 x102001_1]) ?_ 0 _ rfl;(with_reducible repeat (first|refine z8 ?_ _|refine zb ?_|refine z7 ?_ _));exact BK101.out⟩,⟨by (with_reducible repeat (first|refine z8 ?_ _|refine zb ?_|refine z7 ?_ _));refine zP ?_ NB102_101.out _;(with_reducible repeat (first|refine z8 ?_ _|refine zb ?_|refine z7 ?_ _));refine zP ?_ NB102_101.out _;(with_reducible repeat (first|refine z8 ?_ _|refine zb ?_|refine z7 ?_ _));exact BK102.out⟩,⟨by repeat (first|(with_reducible first|exact HB.out|apply zd|apply z3|apply zc|refine za ?_ GE101.out|refine za ?_ GE102.out|refine za ?_ GE104.out)|exact HB.out)⟩⟩
end Go.Proofs.Ytnhbdhgbmjcjdaa.P
namespace Go.Proofs.Ytnhbdhgbmjcjdaa.P
open Go.RowKit Go.Proofs.YtnhbdhgbmjcjdaaW.PrintWords Go.Proofs.YtnhbdhgbmjcjdaaW.PrintLast Go.Proofs.YtnhbdhgbmjcjdaaW.PrintMore
attribute [local go_sem] z10 z12 z1h z1i zQ zR z11 z13   -- for this text's walks alone
set_option linter.unusedVariables false
set_option linter.unusedSimpArgs false
def z1R.f (k : Nat) (a0 : Int) : Option (Int):=(zV.f k a0).bind fun t101=>(some t101)
theorem z1R.mono : ∀ a0 k,LeO (z1R.f k a0) (z1R.f (k + 1) a0):=by
 intro a0 k
 unfold z1R.f
 repeat' first
  | (with_reducible exact zV.mono _ _)
  | (with_reducible exact LeO.refl _)
  | (with_reducible exact LeO.none _)
  | (with_reducible refine LeO.ite ?_ ?_)
  | (with_reducible refine LeO.bind ?_ (fun _=>?_))
  | exact zV.mono _ _
  | exact LeO.none _
  | refine LeO.ite ?_ ?_
  | refine LeO.bind ?_ (fun _=>?_)
set_option maxHeartbeats 8000000 in
set_option maxRecDepth 100000 in
theorem z1R.calls (k : Nat) (a0 : Int) (r : Int) (w : World) (h : z1R.f k a0 = some r) :
 Calls Try.prog 89 #[.int .u64 a0] w fun e w'=>e = .returned (.int .i64 r) ∧ Drawn0 w w':=by
 have H : ((zV.f k a0).bind fun t101=>(some t101)) = some r:=h
 clear h
 replace H:=Option.bind_eq_some_iff.mp H
 obtain ⟨t101,A20,H⟩:=H
 replace H : (some t101) = some r:=H
 have A2:=z1.mk A20
 clear A20
 obtain rfl:=Option.some.inj H
 go_enter Try.func89,Try.ntmps89
 go_wp2_with (first|((with_reducible refine zo (f:=69) rfl ?_);refine goesL_ (some 7) rfl rfl Try.func69 zz84 rfl #[.int .u64 a0] rfl zz45 ?_;(with_reducible refine (zV.calls k a0 t101 _ A2.out).mono ?_);rintro e w' ⟨rfl,⟨nd,rfl⟩⟩;refine ⟨_,rfl,?_⟩))
 go_ret
 exact ⟨by first|rfl|(simp;done)|(simp [*];done),by repeat (first|exact Drawn0.refl _|apply Drawn0.step)⟩
end Go.Proofs.Ytnhbdhgbmjcjdaa.P
/- Own words beside the print's: a cut with a capacity of its own. Own text. -/
namespace Go.Proofs.YtnhbdhgbmjcjdaaW.PrintWords
open Go.RowKit
section
variable {P : Program}
theorem cut_mid3 (t e : TypeId) (kl kh km : IntKind) {i : TypeInfo} (ht : P.underlying t = some (.slice e)) (hi : P.info? e = some i) (size : Nat) (hsz : i.size = size) (A : Option Addr) (n c : Nat) (lo hi' : Int) (h0 : 0 ≤ lo) (h1 : lo ≤ hi') (h2 : hi' ≤ n) (hc : n ≤ c) :
    ∀ W : World, (Instr.slice t (.slice A n c) (some (.int kl lo)) (some (.int kh hi')) (some (.int km hi'))).run P W = .ok (.slice (if hi'.toNat = lo.toNat then A else A.map (·.add (lo.toNat * size))) (hi'.toNat - lo.toNat) (Nat.sub hi'.toNat lo.toNat)) W := by
  intro W
  have hel : P.elem t = e := by simp [Program.elem, ht]
  have hu : P.underlying t = some (.slice (P.elem t)) := by rw [hel]; exact ht
  have e1 : (hi'.toNat : Int) = hi' := Int.toNat_of_nonneg (by omega)
  have e2 : (lo.toNat : Int) = lo := Int.toNat_of_nonneg (by omega)
  rw [run_slice_any _ _ _ _ _ hu, hel]
  have hb : (Instr.sliceBounds true n c (some (.int kl lo)) (some (.int kh hi')) (some (.int km hi'))).run P W = .ok (lo.toNat, hi'.toNat, hi'.toNat) W := by
    have b1 : hi' ≤ (c : Int) := by omega
    have b2 : 0 ≤ hi' := by omega
    simp [Instr.sliceBounds, run_sliceBound, h0, h1, b1, b2, e1]
  rw [hb]
  simp [sizeOf, typeInfo, hi, hsz, sliced, Result.andThen]
end
end Go.Proofs.YtnhbdhgbmjcjdaaW.PrintWords
namespace Go.Proofs.YtnhbdhgbmjcjdaaW.PrintWords.Kd
section
variable {α : Type} {k : Kd α} {w W : World} {A : Option Addr} {xs : List α} {ok : Nat → Prop}
theorem C_mid3 {lo hi : Nat} (h : k.C w A xs.length xs) (h1 : lo ≤ hi) (h2 : hi ≤ xs.length) : k.C w (if hi = lo then A else A.map (·.add (lo * k.sz))) ((xs.take hi).drop lo).length ((xs.take hi).drop lo) := by
  have hl : (xs.take hi).length = hi := by rw [List.length_take]; omega
  exact C_drop (C_take h h2) (by omega) (by omega)
theorem F_mid3 {lo hi : Nat} (h : F k W ok A xs.length xs) (h1 : lo ≤ hi) (h2 : hi ≤ xs.length) : F k W ok (if hi = lo then A else A.map (·.add (lo * k.sz))) ((xs.take hi).drop lo).length ((xs.take hi).drop lo) := F_imp h (fun _ hC => C_mid3 hC h1 h2)
end
end Go.Proofs.YtnhbdhgbmjcjdaaW.PrintWords.Kd

namespace Go.Proofs.YtnhbdhgbmjcjdaaW.PrintLast
open Go.RowKit Go.Proofs.YtnhbdhgbmjcjdaaW.PrintWords Go.Proofs.YtnhbdhgbmjcjdaaW.PrintMore
section
variable {P : Program} {md : Region.Mode} {ops : Array Oper} {rest : List Oper} {o : Oper} {a : Act} {Q : Exit → Act → World → Prop} {W : World}
/-- The operation is a call of a function value. -/
theorem gate_calleeV {t : Tmp} {az : Array Operand} {ts : Array TypeId} (_ho : o.op = .call { callee := .value (.tmp t), args := az, argTypes := ts }) (h : wpList P ops Q (o :: rest) a W) : wpList P ops Q (o :: rest) a W := h
/-- A call of a function value that captures nothing, by its function's contract. -/
theorem goesLV_ {rest : List Oper} {oi : Oper} {a : Act} {w : World} (N : Option Tmp) (hd : oi.dst = N) (hg : oi.guard = none) {f : FuncId} {fn : Func} {t : Tmp} {az : Array Operand} {ts : Array TypeId} (hf : P.funcs[f]? = some fn) (hname : (fn.name == "runtime.NumGoroutine") = false) (hb : fn.body.isSome = true) (args : Array Value)
    (hop : (oi.op, a.eval (.tmp t)) = (Op.call { callee := .value (.tmp t), args := az, argTypes := ts }, Value.func (.func f) #[] #[])) (hargs : az.map a.eval = args)
    (h : Calls P f args w fun e w' => ∃ v, e = .returned v ∧ wpList P ops Q rest (a.put N v) w') : wpList P ops Q (oi :: rest) a w := by
  refine wpList_plain hg fun K hK => ?_
  have he := enters_ hf hname hb args w
  have h1 : oi.op = Op.call { callee := .value (.tmp t), args := az, argTypes := ts } := congrArg Prod.fst hop
  have h2 : a.eval (.tmp t) = Value.func (.func f) #[] #[] := congrArg Prod.snd hop
  have hrun : (execOp a.eval oi).run P w = .ok (.enter f args) w := by
    unfold execOp
    simp [h1, h2, resolve, Deferred.ofValue, invoke, hargs, he]
  unfold Oper.wp
  rw [hrun, Oper.upon_enter]
  refine h.mono fun e w'' hh => ?_
  obtain ⟨v, rfl, hk⟩ := hh
  subst hd
  exact hK _ _ hk
theorem goesV_ {oi : Oper} {N : Option Tmp} {a : Act} {w : World} {K : Act → World → Prop} {f : FuncId} {fn : Func} {t : Tmp} {az : Array Operand} {ts : Array TypeId} (hf : P.funcs[f]? = some fn) (hname : (fn.name == "runtime.NumGoroutine") = false) (hb : fn.body.isSome = true) (args : Array Value)
    (hw : Region.wanted oi (yielded ops a.tmps) = true) (hN : oi.dst = N) (hop : (oi.op, a.eval (.tmp t)) = (Op.call { callee := .value (.tmp t), args := az, argTypes := ts }, Value.func (.func f) #[] #[])) (hargs : az.map a.eval = args)
    (h : Calls P f args w fun e w' => ∃ v, e = .returned v ∧ K (a.put N v) w') : if Region.wanted oi (yielded ops a.tmps) = true then Oper.wp P oi a w K Q else K (a.put N undef) w := by
  refine call_ f args hw hN ?_ h
  have he := enters_ hf hname hb args w
  have h1 : oi.op = Op.call { callee := .value (.tmp t), args := az, argTypes := ts } := congrArg Prod.fst hop
  have h2 : a.eval (.tmp t) = Value.func (.func f) #[] #[] := congrArg Prod.snd hop
  unfold execOp
  simp [h1, h2, resolve, Deferred.ofValue, invoke, hargs, he]
end
end Go.Proofs.YtnhbdhgbmjcjdaaW.PrintLast
namespace Go.Proofs.Ytnhbdhgbmjcjdaa.P
open Go.RowKit Go.Proofs.YtnhbdhgbmjcjdaaW.PrintWords Go.Proofs.YtnhbdhgbmjcjdaaW.PrintLast Go.Proofs.YtnhbdhgbmjcjdaaW.PrintMore
attribute [local go_sem] z10 z12 z1h z1i zQ zR z11 z13   -- for this text's walks alone
set_option linter.unusedVariables false
set_option linter.unusedSimpArgs false
def z1v.f (k : Nat) (a0_0 : Int) (a0_1 : Int) (a1_0 : Int) (a1_1 : Int) : Option (Int):=(z14.f k a1_0 a1_1).bind fun t103=>((z14.f k a0_0 a0_1).bind fun t104=>(some (wrap64 (t103 - t104))))
theorem z1v.mono : ∀ a0 a1 a2 a3 k,LeO (z1v.f k a0 a1 a2 a3) (z1v.f (k + 1) a0 a1 a2 a3):=by
 intro a0 a1 a2 a3 k
 unfold z1v.f
 repeat' first
  | (with_reducible exact z14.mono _ _ _)
  | (with_reducible exact LeO.refl _)
  | (with_reducible exact LeO.none _)
  | (with_reducible refine LeO.ite ?_ ?_)
  | (with_reducible refine LeO.bind ?_ (fun _=>?_))
  | exact z14.mono _ _ _
  | exact LeO.none _
  | refine LeO.ite ?_ ?_
  | refine LeO.bind ?_ (fun _=>?_)
set_option maxHeartbeats 8000000 in
set_option maxRecDepth 100000 in
theorem z1v.calls (k : Nat) (a0_0 : Int) (a0_1 : Int) (a1_0 : Int) (a1_1 : Int) (r : Int) (w : World) (h : z1v.f k a0_0 a0_1 a1_0 a1_1 = some r) :
 Calls Try.prog 82 #[.agg #[.int .u64 a0_0,.int .u64 a0_1],.agg #[.int .u64 a1_0,.int .u64 a1_1]] w fun e w'=>e = .returned (.int .i64 r) ∧ Below w.heap.size w w':=by
 have hu35:=Try.underlying35
 have HB:=z1.mk (Below.refl w.heap.size w)
 have H : ((z14.f k a1_0 a1_1).bind fun t103=>((z14.f k a0_0 a0_1).bind fun t104=>(some (wrap64 (t103 - t104))))) = some r:=h
 clear h
 replace H:=Option.bind_eq_some_iff.mp H
 obtain ⟨t103,A30,H⟩:=H
 replace H : ((z14.f k a0_0 a0_1).bind fun t104=>(some (wrap64 (t103 - t104)))) = some r:=H
 have A3:=z1.mk A30
 clear A30
 replace H:=Option.bind_eq_some_iff.mp H
 obtain ⟨t104,A40,H⟩:=H
 replace H : (some (wrap64 (t103 - t104))) = some r:=H
 have A4:=z1.mk A40
 clear A40
 obtain rfl:=Option.some.inj H
 go_enter Try.func82,Try.ntmps82
 try go_wp2_with (first|((with_reducible refine zE (N:=2) rfl ?_);refine zC ?hg (N:=2) ?hd (cs:=#[.int .u64 a0_0,.int .u64 a0_1]) (t:=35) ?hr ?_;(case hd=>rfl);(case hg=>rfl);(case hr=>first|(go_simp;done)|(go_simp;rfl));intro gb101 hg w5 hbox hb;have n0_:=z1.mk (ze zz47 hb);have n1_:=z1.mk (hbox);have n2_:=z1.mk ((by rw [hg];exact (zf zz47) : w.heap.size ≤ gb101));have n3_:=z1.mk ((by rw [hg];exact (zf zz47) : w.heap.size ≤ gb101));clear HB;have HB:=n0_;have BK101:=n1_;have GW101:=n2_;have GE101:=n3_;clear n0_ n1_ n2_ n3_;clear hb hbox hg)|((with_reducible refine zE (N:=3) rfl ?_);refine zC ?hg (N:=3) ?hd (cs:=#[.int .u64 a1_0,.int .u64 a1_1]) (t:=35) ?hr ?_;(case hd=>rfl);(case hg=>rfl);(case hr=>first|(go_simp;done)|(go_simp;rfl));intro gb102 hg w6 hbox hb;have n0_:=z1.mk (z9 (g:=gb101) (o:=.cells #[.int .u64 a0_0,.int .u64 a0_1] 35 (0,0)) zz49 hb);have n1_:=z1.mk (ze zz41 hb);have n2_:=z1.mk (hbox);have n3_:=z1.mk ((by rw [hg];exact (zf zz41) : w.heap.size ≤ gb102));have n4_:=z1.mk ((by rw [hg];exact (zf zz41) : w.heap.size ≤ gb102));have n5_:=z1.mk ((by rw [hg];exact Nat.ne_of_lt (zw (g:=gb101) (o:=.cells #[.int .u64 a0_0,.int .u64 a0_1] 35 (0,0)) zz49) : gb101 ≠ gb102));have n6_:=z1.mk ((by rw [hg];exact Nat.ne_of_gt (zw (g:=gb101) (o:=.cells #[.int .u64 a0_0,.int .u64 a0_1] 35 (0,0)) zz49) : gb102 ≠ gb101));clear BK101;clear HB;have BK101:=n0_;have HB:=n1_;have BK102:=n2_;have GW102:=n3_;have GE102:=n4_;have NB101_102:=n5_;have NB102_101:=n6_;clear n0_ n1_ n2_ n3_ n4_ n5_ n6_;clear hb hbox hg))
 have n0_:=z1.mk (zb BK101.out)
 have n1_:=z1.mk (zb BK102.out)
 have n2_:=z1.mk (zc HB.out)
 clear BK101
 clear BK102
 clear HB
 have BK101:=n0_
 have BK102:=n1_
 have HB:=n2_
 clear n0_ n1_ n2_
 refine start_ (n:=6) (S:=fun w'=>w'.cell? ⟨gb102,0,none⟩ = some (.int .u64 a1_0) ∧ w'.cell? ⟨gb102,1,none⟩ = some (.int .u64 a1_1) ∧ w'.cell? ⟨gb101,0,none⟩ = some (.int .u64 a0_0) ∧ w'.cell? ⟨gb101,1,none⟩ = some (.int .u64 a0_1)) (ds:=[]) #[false,false,false,false,false,false] zz84 rfl rfl ⟨(z5 BK102.out 0).trans rfl,(z5 BK102.out 1).trans rfl,(z5 BK101.out 0).trans rfl,(z5 BK101.out 1).trans rfl⟩ (fun hHeld=>?_)
 generalize w6.drew = w7 at BK101 BK102 HB hHeld ⊢
 refine take_ (i:=0) (N:=some 5) (v:=?_) (a':=?_) #[true,false,false,false,false,false] rfl rfl zz84 (fun _ _ _ h=>h) (Or.inl ⟨by rfl,?_⟩) hHeld ?_ ?_
 rotate_left
 · rintro w' ⟨s0,s1,s2,s3⟩
   go_simp
   with_reducible rfl
 rotate_left
 · simp only [Act.put,List.setIfInBounds_toArray,List.set_cons_zero,List.set_cons_succ,zH,zI]
   rfl
 refine take_ (i:=2) (N:=some 7) (v:=?_) (a':=?_) #[true,false,true,false,false,false] rfl rfl zz84 (fun _ _ _ h=>h) (Or.inl ⟨by rfl,?_⟩) hHeld ?_ ?_
 rotate_left
 · rintro w' ⟨s0,s1,s2,s3⟩
   go_simp
   with_reducible rfl
 rotate_left
 · simp only [Act.put,List.setIfInBounds_toArray,List.set_cons_zero,List.set_cons_succ,zH,zI]
   rfl
 refine one_ (i:=1) (N:=some 6) #[true,true,true,false,false,false] rfl rfl zz84 zz85 (fun K hK=>?_)
 refine goes_ Try.func49 zz84 rfl #[.agg #[.int .u64 a1_0,.int .u64 a1_1]] zz88 rfl rfl zz45 ?_
 with_reducible refine (z14.calls k a1_0 a1_1 t103 _ A3.out).mono ?_
 rintro e w8 ⟨rfl,hb⟩
 refine ⟨_,rfl,?_⟩
 have n0_:=z1.mk (z9 (g:=gb101) (o:=.cells #[.int .u64 a0_0,.int .u64 a0_1] 35 (0,0)) zz49 hb)
 have n1_:=z1.mk (z9 (g:=gb102) (o:=.cells #[.int .u64 a1_0,.int .u64 a1_1] 35 (0,0)) zz50 hb)
 have n2_:=z1.mk (ze zz36 hb)
 clear BK101
 clear BK102
 clear HB
 have BK101:=n0_
 have BK102:=n1_
 have HB:=n2_
 clear n0_ n1_ n2_
 (try clear hb)
 (try clear hb2)
 (try clear hk)
 (try clear hi)
 refine hK.out _ _ ⟨(z5 BK102.out 0).trans rfl,(z5 BK102.out 1).trans rfl,(z5 BK101.out 0).trans rfl,(z5 BK101.out 1).trans rfl⟩ (fun hHeld=>?_)
 clear hK K
 refine norm_ (a':=?_) ?_ ?_
 rotate_left
 · show Act.put _ (some 6) _ = _
   simp only [Act.put,List.setIfInBounds_toArray,List.set_cons_zero,List.set_cons_succ,zH,zI]
   rfl
 refine one_ (i:=3) (N:=some 8) #[true,true,true,true,false,false] rfl rfl zz84 zz85 (fun K hK=>?_)
 refine goes_ Try.func49 zz84 rfl #[.agg #[.int .u64 a0_0,.int .u64 a0_1]] zz88 rfl rfl zz45 ?_
 with_reducible refine (z14.calls k a0_0 a0_1 t104 _ A4.out).mono ?_
 rintro e w9 ⟨rfl,hb⟩
 refine ⟨_,rfl,?_⟩
 have n0_:=z1.mk (z9 (g:=gb101) (o:=.cells #[.int .u64 a0_0,.int .u64 a0_1] 35 (0,0)) zz49 hb)
 have n1_:=z1.mk (z9 (g:=gb102) (o:=.cells #[.int .u64 a1_0,.int .u64 a1_1] 35 (0,0)) zz50 hb)
 have n2_:=z1.mk (ze zz36 hb)
 clear BK101
 clear BK102
 clear HB
 have BK101:=n0_
 have BK102:=n1_
 have HB:=n2_
 clear n0_ n1_ n2_
 (try clear hb)
 (try clear hb2)
 (try clear hk)
 (try clear hi)
 refine hK.out _ _ ⟨(z5 BK102.out 0).trans rfl,(z5 BK102.out 1).trans rfl,(z5 BK101.out 0).trans rfl,(z5 BK101.out 1).trans rfl⟩ (fun hHeld=>?_)
 clear hK K
 refine norm_ (a':=?_) ?_ ?_
 rotate_left
 · show Act.put _ (some 8) _ = _
   simp only [Act.put,List.setIfInBounds_toArray,List.set_cons_zero,List.set_cons_succ,zH,zI]
   rfl
 refine pure_ (i:=4) (N:=some 9) (v:=?_) (a':=?_) #[true,true,true,true,true,false] rfl rfl zz84 (fun _ _ _ h=>h) (Or.inl ⟨by rfl,?_⟩) ?_ ?_
 rotate_left
 · intro w'
   go_simp
   with_reducible rfl
 rotate_left
 · simp only [Act.put,List.setIfInBounds_toArray,List.set_cons_zero,List.set_cons_succ,zH,zI]
   rfl
 refine pure_ (i:=5) (N:=some 4) (v:=?_) (a':=?_) #[true,true,true,true,true,true] rfl rfl zz84 (fun _ _ _ h=>h) (Or.inl ⟨by rfl,?_⟩) ?_ ?_
 rotate_left
 · intro w'
   go_simp
   with_reducible rfl
 rotate_left
 · simp only [Act.put,List.setIfInBounds_toArray,List.set_cons_zero,List.set_cons_succ,zH,zI]
   rfl
 refine done_ zz84 ?_
 try go_wp2
 go_ret
 exact ⟨by first|rfl|(simp [zi,zj] <;> rfl)|(simp [*,zi,zj] <;> rfl),by repeat (first|(with_reducible first|exact HB.out|apply zd|apply z3|apply zc|refine za ?_ GE101.out|refine za ?_ GE102.out)|exact HB.out)⟩
end Go.Proofs.Ytnhbdhgbmjcjdaa.P
